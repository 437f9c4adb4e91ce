/- The law ShapesMatch answers true. -/
import Derived.Test.YtjelhdpcaileiaaDoorU17
import Derived.Test.YtjelhdpcaileiaaDoorU18
import Derived.Test.YtjelhdpcaileiaaDoorU19

namespace Go.Proofs.YtjelhdpcaileiaaDoor
open Go.RowKit

theorem shapeWant {FE : Int} {n : Nat} (h : FE = 0 → n ≠ 0) : firstNZ [FE, whenI (decide ((n : Int) = 1)) 9] = apErr FE n := by
  unfold apErr
  by_cases hf : FE = 0
  · subst hf
    have := h rfl
    by_cases h1 : n = 1
    · subst h1; rfl
    · rw [decide_eq_false (by omega), if_neg (by simp), if_neg (by omega)]; rfl
  · rw [if_pos hf]
    show (if FE = 0 then _ else FE) = FE
    rw [if_neg hf]
set_option maxRecDepth 100000 in
set_option maxHeartbeats 8000000 in
theorem lawShapes_any (nm : List UInt8) (ht gap sp : Int) (L : Option Addr) (c : Nat) (ls : List Ltr) (W H W' H' : Int) (A B : Option Addr) (an ac bn bc : Nat) (cs bs : List Bool) (r : Int) (w : World) (hL : LtrsAt w L ls) (hA : Reads w 1 A an (cs.map .bool)) (hB : Reads w 1 B bn (bs.map .bool))
    (hnm : nm.length ≤ 9223372036854775807) (hn : ls.length ≤ 9223372036854775807) (hc : ls.length ≤ c) (han : an ≤ 9223372036854775807) (hbn : bn ≤ 9223372036854775807) :
    Calls Tryd.prog 6 #[.agg #[.string ⟨nm.toArray⟩, .int .i64 ht, .int .i64 gap, .int .i64 sp, .slice L ls.length c], .agg #[.int .i64 W, .int .i64 H, .slice A an ac], .agg #[.int .i64 W', .int .i64 H', .slice B bn bc], .int .i64 r] w fun e w' => e = .returned (.bool true) ∧ Bl w w' := by
  let w2 := (((w).alloc (.cells #[.string ⟨nm.toArray⟩, .int .i64 ht, .int .i64 gap, .int .i64 sp, .slice L ls.length c] 24)).alloc (.cells #[.int .i64 W, .int .i64 H, .slice A an ac] 27)).alloc (.cells #[.int .i64 W', .int .i64 H', .slice B bn bc] 27)
  have w2b : Bl w w2 := (((Bl.refl w).alloc _).alloc _).alloc _
  have w21 : Blk w2 (w.heap.size) 24 #[.string ⟨nm.toArray⟩, .int .i64 ht, .int .i64 gap, .int .i64 sp, .slice L ls.length c] := by
    have h0 := Blk.new (w) 24 #[.string ⟨nm.toArray⟩, .int .i64 ht, .int .i64 gap, .int .i64 sp, .slice L ls.length c]
    exact ((h0.alloc _).alloc _)
  have w22 : Blk w2 (w.heap.size + 1) 27 #[.int .i64 W, .int .i64 H, .slice A an ac] := by
    have h0 := Blk.new ((w).alloc (.cells #[.string ⟨nm.toArray⟩, .int .i64 ht, .int .i64 gap, .int .i64 sp, .slice L ls.length c] 24)) 27 #[.int .i64 W, .int .i64 H, .slice A an ac]
    simp only [World.size_alloc] at h0
    exact (h0.alloc _)
  have w23 : Blk w2 (w.heap.size + 1 + 1) 27 #[.int .i64 W', .int .i64 H', .slice B bn bc] := by
    have h0 := Blk.new (((w).alloc (.cells #[.string ⟨nm.toArray⟩, .int .i64 ht, .int .i64 gap, .int .i64 sp, .slice L ls.length c] 24)).alloc (.cells #[.int .i64 W, .int .i64 H, .slice A an ac] 27)) 27 #[.int .i64 W', .int .i64 H', .slice B bn bc]
    simp only [World.size_alloc] at h0
    exact h0
  have HL := Lib.hid (hL.bl w2b); have HA := Lib.hid (hA.bl w2b); have HB := Lib.hid (hB.bl w2b)
  obtain ⟨FE, hFE⟩ : ∃ x, x = fontErr (nameB nm) ht gap sp ls := ⟨_, rfl⟩
  obtain ⟨PA, hPA⟩ : ∃ x, x = pageErr W H an := ⟨_, rfl⟩
  obtain ⟨PB, hPB⟩ : ∃ x, x = pageErr W' H' bn := ⟨_, rfl⟩
  obtain ⟨FR, hFR⟩ : ∃ x, x = whenI (reachB r) 3 := ⟨_, rfl⟩
  have Cfe := Lib.hid (fun wx (hx : Bl w2 wx) => fontError_any nm ht gap sp L c ls wx (HL.out.bl hx) hnm hn hc)
  have Cpa := Lib.hid (fun wx => bitsError_any W H A an ac wx)
  have Cpb := Lib.hid (fun wx => bitsError_any W' H' B bn bc wx)
  have Cfr : Hid (∀ wx : World, Calls Tryd.prog 13 #[.bool (!inB r 0 4), .int .i64 3] wx fun e w' => e = .returned (.int .i64 FR) ∧ wx = w') := Lib.hid (fun wx => by rw [hFR, ← reach_in]; exact when_any _ _ _)
  have Cds := Lib.hid (fun wx (hx : Bl w2 wx) => distAny_any W H W' H' r A B an bn ac bc cs bs wx (HA.out.bl hx) (HB.out.bl hx))
  have Cmt := Lib.hid (fun wx (hx : Bl w2 wx) => match_any nm ht gap sp L c ls W H A an ac cs r wx (HL.out.bl hx) (HA.out.bl hx) hnm hn)
  have Cpc := Lib.hid (fun wx (hx : Bl w2 wx) => glyphPieces_any W H A an ac cs wx (HA.out.bl hx))
  have Cap := Lib.hid (fun wx (hx : Bl w2 wx) => apartG_any nm ht gap sp L c ls wx (HL.out.bl hx) hnm hn hc)
  unfold DistRes at Cds
  unfold MatchRes at Cmt
  unfold ApRes at Cap
  unfold distErr at Cds Cmt
  simp only [← hFE, ← hPA, ← hPB, ← hFR] at Cfe Cpa Cpb Cds Cmt Cpc Cap
  have HFE := Lib.hid hFE; have HPA := Lib.hid hPA; have HPB := Lib.hid hPB; have HFR := Lib.hid hFR
  have k1 := w21.all5
  have k2 := w22.all3
  have k3 := w23.all3
  clear hL hA hB hFE hPA hPB hFR
  go_enter Tryd.func6, Tryd.ntmps6
  go_upto_region 1 with fail
  change Code.wp _ _ _ _ w2
  clear_value w2
  refine wp_region_flow [(true, 0), (true, 2), (false, 1), (false, 3), (true, 4), (true, 5)] (fun _ => false) (by kernel_rfl) (by kernel_rfl) (by kernel_rfl) (by kernel_rfl) ?_
  iterate 2
    apply Flow.calm2 _ _ rfl rfl
    · intro w' hb' K' hK'
      obtain ⟨hc', hf'⟩ := hb'.rule
      go_simp
      try go_ints
      exact hK'
    · intro K' hK'
      simp only [Act.put, List.setIfInBounds_toArray, List.set_cons_zero, List.set_cons_succ]
      exact hK'
  apply Flow.move rfl
  go_wp2_with fail
  refine (Cfe.out _ (Bl.refl w2).drew).mono ?_
  rintro e w3 ⟨rfl, HB1⟩
  go_wp2_with fail
  refine ⟨fun _ => (by first | exact HB1 | exact Bl.refl _), ?_⟩
  apply Flow.move rfl
  go_wp2_with fail
  refine (Cpa.out _).mono ?_
  rintro e w4 ⟨rfl, HB2⟩
  go_wp2_with fail
  refine ⟨fun _ => (by first | exact HB2 | exact Bl.refl _), ?_⟩
  iterate 2
    apply Flow.asg _ rfl
    · intro K' hK'
      simp only [Act.put, Act.eval, List.setIfInBounds_toArray, List.set_cons_zero, List.set_cons_succ, arr_getD, List.getD_cons_zero, List.getD_cons_succ]
      exact hK'
  refine Flow.done ?_
  have hb4 : Bl w2 w4 := (Bl.refl w2).drew.trans (HB1.trans HB2)
  clear k1 k2 k3 HB1 HB2 Cfe
  have k1 := (w21.bl hb4).all5
  have k2 := (w22.bl hb4).all3
  have k3 := (w23.bl hb4).all3
  go_wp2_with fail
  refine (in_any _ _ _ _).mono ?_
  rintro e w' ⟨rfl, rfl⟩
  go_wp2_with fail
  refine (Cfr.out _).mono ?_
  rintro e w' ⟨rfl, rfl⟩
  go_upto_region 3 with fail
  go_cut [54] from 36 to 54 (fun s54 wc => s54 = .bool (decide (PA = 0 ∧ 600 < an ∨ PB = 0 ∧ 600 < bn)) ∧ Bl w4 wc)
  case first =>
    by_cases a1 : PA = 0
    · by_cases a2 : 600 < an
      · subst a1
        have a3 : (600 : Int) < (an : Int) := by omega
        go_wp2_with fail
        go_meet
        case rel => exact ⟨by simp [a2], Bl.refl _⟩
      · have A1 := Lib.hid a1
        subst a1
        have a3 : ¬ (600 : Int) < (an : Int) := by omega
        go_wp2_with fail
        refine (Cpb.out _).mono ?_
        rintro e w5 ⟨rfl, hb5⟩
        have k3 := (w23.bl (hb4.trans hb5)).all3
        by_cases b1 : PB = 0
        · subst b1
          by_cases b2 : 600 < bn
          · have b3 : (600 : Int) < (bn : Int) := by omega
            go_wp2_with fail
            go_meet
            case rel => exact ⟨by simp [b2] <;> omega, hb5⟩
          · have b3 : ¬ (600 : Int) < (bn : Int) := by omega
            go_wp2_with fail
            go_meet
            case rel => exact ⟨by simp [a2, b2] <;> omega, hb5⟩
        · have B1 := Lib.hid b1
          have hq : (PB == 0) = false := by simp [b1]
          clear b1
          go_wp2_with fail
          go_meet
          case rel => exact ⟨by simp [a2, B1.out], hb5⟩
    · have A1 := Lib.hid a1
      have hqa : (PA == 0) = false := by simp [a1]
      clear a1
      go_wp2_with fail
      refine (Cpb.out _).mono ?_
      rintro e w5 ⟨rfl, hb5⟩
      have k3 := (w23.bl (hb4.trans hb5)).all3
      by_cases b1 : PB = 0
      · subst b1
        by_cases b2 : 600 < bn
        · have b3 : (600 : Int) < (bn : Int) := by omega
          go_wp2_with fail
          go_meet
          case rel => exact ⟨by simp [b2] <;> omega, hb5⟩
        · have b3 : ¬ (600 : Int) < (bn : Int) := by omega
          go_wp2_with fail
          go_meet
          case rel => exact ⟨by simp [A1.out, b2] <;> omega, hb5⟩
      · have B1 := Lib.hid b1
        have hq : (PB == 0) = false := by simp [b1]
        clear b1
        go_wp2_with fail
        go_meet
        case rel => exact ⟨by simp [A1.out, B1.out], hb5⟩
  case rest =>
    obtain ⟨rfl, hb45⟩ := hcut
    rename World => w5
    clear k1 k2 k3
    have hb5 := hb4.trans hb45
    obtain ⟨big, hbig⟩ : ∃ b, b = decide (PA = 0 ∧ 600 < an ∨ PB = 0 ∧ 600 < bn) := ⟨_, rfl⟩
    rw [← hbig]
    clear hbig
    cases big
    case true =>
      go_wp2_with fail
      refine (glyphs_any _).mono ?_
      rintro e w6 ⟨rfl, hb6⟩
      go_wp2_with fail
      go_ret
      exact ⟨rfl, w2b.trans (hb5.trans hb6)⟩
    case false =>
      have k2 := (w22.bl hb5).all3
      have k3 := (w23.bl hb5).all3
      go_wp2_with fail
      refine (Cds.out _ hb5).mono ?_
      rintro e w6 ⟨n, e1, rfl, ⟨he1, hn1, hd1⟩, hb6⟩
      have hb26 := hb5.trans hb6
      have HE1 := Lib.hid he1; have HN1 := Lib.hid hn1; have HD1 := Lib.hid hd1
      clear he1 hn1 hd1 k2 k3 Cds
      have k3 := (w23.bl hb26).all3
      go_wp2_with fail
      refine (Cpb.out _).mono ?_
      rintro e w7 ⟨rfl, hb7⟩
      have hb27 := hb26.trans hb7
      go_wp2_with fail
      refine (first3_any _ _ _ _ _ (Blk.new _ _ _)).mono ?_
      rintro e w' ⟨rfl, rfl⟩
      rw [← HE1.out]
      obtain ⟨w8, hw8⟩ : ∃ x, x = w7.alloc (.cells #[.int .i64 PA, .int .i64 PB, .int .i64 FR] 30) := ⟨_, rfl⟩
      have hb78 : Bl w7 w8 := by rw [hw8]; exact (Bl.refl _).alloc _
      have hb28 := hb27.trans hb78
      rw [← hw8]
      clear hw8 k3
      go_upto_region 7 with fail
      go_cut [95] from 69 to 95 (fun s95 wc => s95 = .bool false ∧ Bl w8 wc)
      case first =>
        by_cases hz : e1 = 0
        · subst hz
          have hz := firstNZ_zero HE1.out.symm
          have z1 : PA = 0 := hz _ (by simp)
          have z2 : PB = 0 := hz _ (by simp)
          have z3 : FR = 0 := hz _ (by simp)
          obtain ⟨r, rfl, hr⟩ := reach_ok (whenI_zero (HFR.out.symm.trans z3) (by decide))
          obtain ⟨W, H, rfl, rfl, rfl, hW, hH, hWH⟩ := page_nat (HPA.out.symm.trans z1)
          obtain ⟨W', H', rfl, rfl, rfl, hW', hH', hWH'⟩ := page_nat (HPB.out.symm.trans z2)
          have hd := HD1.out rfl
          simp only [Int.toNat_natCast] at hd
          have hfo := fun wx (hx : Bl w8 wx) => farOf_any W H W' H' r A B ac bc cs bs wx ((HA.out.bl hb28).bl hx) ((HB.out.bl hb28).bl hx) hW hH hW' hH' hr
          simp only [← hd] at hfo
          have Hfo := Lib.hid hfo
          clear hfo hd hz z1 z2 z3
          go_wp2_with fail
          refine (glyphs_any _).mono ?_
          rintro e w9 ⟨rfl, hb9⟩
          have k2 := (w22.bl (hb28.trans hb9)).all3
          have k3 := (w23.bl (hb28.trans hb9)).all3
          go_wp2_with fail
          refine (Hfo.out _ hb9).mono ?_
          rintro e w10 ⟨rfl, hb10⟩
          go_wp2_with fail
          go_meet
          case rel => exact ⟨rfl, hb9.trans hb10⟩
        · obtain rfl := HN1.out hz
          have hq : (e1 == 0) = false := by simp [hz]
          have hq2 : (e1 != 0) = true := by simp [hz]
          clear hz
          go_wp2_with fail
          refine (glyphs_any _).mono ?_
          rintro e w9 ⟨rfl, hb9⟩
          go_wp2_with fail
          go_meet
          case rel => exact ⟨by simp, hb9⟩
      case rest =>
        obtain ⟨rfl, hb89⟩ := hcut
        rename World => w9
        have hb9 := hb28.trans hb89
        have k1 := (w21.bl hb9).all5
        have k2 := (w22.bl hb9).all3
        clear HE1 HN1 HD1
        go_wp2_with fail
        refine (Cmt.out _ hb9).mono ?_
        rintro e w10 ⟨R1, m1, d1, e2, rfl, ⟨he2, hn2, hd2⟩, hb10⟩
        have HE2 := Lib.hid he2; have HN2 := Lib.hid hn2; have HD2 := Lib.hid hd2
        have hb210 := hb9.trans hb10
        clear he2 hn2 hd2 k1 k2 Cmt
        go_wp2_with fail
        refine (first3_any _ _ _ _ _ (Blk.new _ _ _)).mono ?_
        rintro e w' ⟨rfl, rfl⟩
        rw [← HE2.out]
        obtain ⟨w11, hw11⟩ : ∃ x, x = w10.alloc (.cells #[.int .i64 FE, .int .i64 PA, .int .i64 FR] 30) := ⟨_, rfl⟩
        have hb1011 : Bl w10 w11 := by rw [hw11]; exact (Bl.refl _).alloc _
        have hb211 := hb210.trans hb1011
        rw [← hw11]
        clear hw11
        go_upto_region 11 with fail
        go_cut [132] from 108 to 132 (fun s132 wc => s132 = .bool false ∧ Bl w11 wc)
        case first =>
          by_cases hz : e2 = 0
          · subst hz
            have hz := firstNZ_zero HE2.out.symm
            have z1 : FE = 0 := hz _ (by simp)
            have z2 : PA = 0 := hz _ (by simp)
            have z3 : FR = 0 := hz _ (by simp)
            obtain ⟨r, rfl, hr⟩ := reach_ok (whenI_zero (HFR.out.symm.trans z3) (by decide))
            obtain ⟨W, H, rfl, rfl, rfl, hW, hH, hWH⟩ := page_nat (HPA.out.symm.trans z2)
            obtain ⟨⟨-, -, -, hls0, hls, -, -⟩, hltr⟩ := fontErr_zero (HFE.out.symm.trans z1)
            obtain ⟨rfl, hr1⟩ := HD2.out rfl
            simp only [Int.toNat_natCast] at hr1
            have HR1 := Lib.hid (hr1.bl hb1011)
            have Hmo := Lib.hid (fun wx (hx : Bl w11 wx) => matchesOf_any nm ht gap sp L c ls W H A ac cs r wx ((HL.out.bl hb211).bl hx) ((HA.out.bl hb211).bl hx) hW hH hr hls0 hls hltr)
            obtain ⟨S, hS⟩ : ∃ S, S = stableL (mtsOf cs W H r ls) := ⟨_, rfl⟩
            have hSl : S.length = ls.length := by rw [hS, stableL_len]; exact List.length_map ..
            rw [← hS] at HR1 Hmo
            have k1 := (w21.bl hb211).all5
            have k2 := (w22.bl hb211).all3
            have HSl := Lib.hid hSl
            clear hr1 hz z1 z2 z3 hltr hS hSl
            go_wp2_with fail
            refine (Hmo.out _ (Bl.refl _)).mono ?_
            rintro e w12 ⟨R2, d2, rfl, hr2, hb12⟩
            have HEq := Lib.hid (equalMatches_any R1 R2 d1 d2 S w12 (by rw [HSl.out]; exact HR1.out.bl hb12) (by rw [HSl.out]; exact hr2) (by rw [HSl.out]; omega))
            rw [HSl.out] at HEq
            clear hr2 k1 k2
            go_wp2_with fail
            refine HEq.out.mono ?_
            rintro e w13 ⟨rfl, hb13⟩
            go_wp2_with fail
            go_meet
            case rel => exact ⟨rfl, hb12.trans hb13⟩
          · obtain ⟨rfl, rfl⟩ := HN2.out hz
            have hq : (e2 == 0) = false := by simp [hz]
            have hq2 : (e2 != 0) = true := by simp [hz]
            clear hz
            go_wp2_with fail
            go_meet
            case rel => exact ⟨by simp, Bl.refl _⟩
        case rest =>
          obtain ⟨rfl, hb1112⟩ := hcut
          rename World => w12
          have hb212 := hb211.trans hb1112
          have k2 := (w22.bl hb212).all3
          clear HE2 HN2 HD2
          go_wp2_with fail
          refine (Cpc.out _ hb212).mono ?_
          rintro e w13 ⟨R3, m3, d3, rfl, hn3, hd3, hb13⟩
          have HN3 := Lib.hid hn3; have HD3 := Lib.hid hd3
          have hb213 := hb212.trans hb13
          clear hn3 hd3 k2 Cpc
          go_upto_region 14 with fail
          go_cut [160] from 138 to 160 (fun s160 wc => s160 = .bool false ∧ Bl w13 wc)
          case first =>
            by_cases hz : PA = 0
            · have HZ := Lib.hid hz
              subst hz
              obtain ⟨W, H, rfl, rfl, rfl, hW, hH, hWH⟩ := page_nat HPA.out.symm
              obtain ⟨hm3, hr3⟩ := HD3.out rfl
              simp only [Int.toNat_natCast] at hr3 hm3
              have Hpo := Lib.hid (piecesOf_any W H A ac cs w13 (HA.out.bl hb213) hW hH)
              have hpl : (piecesTo (colN cs W H) W).length ≤ W := pieces_len _ W
              obtain ⟨ps, hps⟩ : ∃ ps, ps = piecesTo (colN cs W H) W := ⟨_, rfl⟩
              rw [← hps] at hr3 Hpo hpl hm3
              rw [hm3] at hr3
              have HR3 := Lib.hid hr3; have HM3 := Lib.hid hm3
              have k2 := (w22.bl hb213).all3
              clear hr3 hps hm3
              go_wp2_with fail
              refine Hpo.out.mono ?_
              rintro e w14 ⟨v, rfl, hown, hb14⟩
              obtain ⟨R4, d4, rfl, hr4⟩ := own_reads hown
              have HEq := Lib.hid (show ∀ q, q = ps.length → Calls Tryd.prog 50 #[.slice R3 q d3, .slice R4 ps.length d4] w14 fun e w' => e = .returned (.bool true) ∧ Bl w14 w' from fun q hq => by subst hq; exact equalBoxes_any R3 R4 d3 d4 H ps w14 (HR3.out.bl hb14) hr4 (by omega))
              clear hown hr4 k2
              go_wp2_with fail
              refine (HEq.out m3 HM3.out).mono ?_
              rintro e w15 ⟨rfl, hb15⟩
              go_wp2_with fail
              go_meet
              case rel => exact ⟨rfl, hb14.trans hb15⟩
            · obtain ⟨rfl, rfl⟩ := HN3.out hz
              have hq : (PA == 0) = false := by simp [hz]
              have hq2 : (PA != 0) = true := by simp [hz]
              clear hz
              go_wp2_with fail
              go_meet
              case rel => exact ⟨by simp, Bl.refl _⟩
          case rest =>
            obtain ⟨rfl, hb1314⟩ := hcut
            rename World => w14
            have hb214 := hb213.trans hb1314
            have k1 := (w21.bl hb214).all5
            clear HN3 HD3
            go_wp2_with fail
            refine (Cap.out _ hb214).mono ?_
            rintro e w15 ⟨n4, s4, t4, e4, rfl, ⟨he4, hn4, hd4⟩, hb15⟩
            have HE4 := Lib.hid he4; have HN4 := Lib.hid hn4; have HD4 := Lib.hid hd4
            have hb215 := hb214.trans hb15
            clear he4 hn4 hd4 k1 Cap
            have k1 := (w21.bl hb215).all5
            go_wp2_with fail
            have hsw : firstNZ [FE, whenI (decide ((ls.length : Int) = 1)) 9] = apErr FE ls.length := shapeWant fun h => (fontErr_zero (HFE.out.symm.trans h)).1.2.2.2.1
            rw [← HE4.out, show decide ((ls.length : Int) = 1) = ((ls.length : Int) == 1) from rfl] at hsw
            have HSw := Lib.hid hsw
            clear hsw
            refine (when_any _ _ _).mono ?_
            rintro e w' ⟨rfl, rfl⟩
            go_wp2_with fail
            refine (first2_any _ _ _ _ (Blk.new _ _ _)).mono ?_
            rintro e w' ⟨rfl, rfl⟩
            rw [HSw.out]
            obtain ⟨w16, hw16⟩ : ∃ x, x = w15.alloc (.cells #[.int .i64 FE, .int .i64 (whenI ((ls.length : Int) == 1) 9)] 30) := ⟨_, rfl⟩
            have hb1516 : Bl w15 w16 := by rw [hw16]; exact (Bl.refl _).alloc _
            have hb216 := hb215.trans hb1516
            rw [← hw16]
            clear hw16 k1
            by_cases hz : e4 = 0
            case neg =>
              obtain ⟨rfl, rfl, rfl⟩ := HN4.out hz
              have hq : (e4 == 0) = false := by simp [hz]
              clear hz
              go_wp2_with fail
              go_ret
              exact ⟨by first | rfl | simp, w2b.trans hb216⟩
            case pos =>
              subst hz
              have hFE0 : FE = 0 := by
                have h := HE4.out
                unfold apErr at h
                by_cases hf : FE = 0
                · exact hf
                · rw [if_pos hf] at h; exact h.symm
              obtain ⟨⟨-, -, -, hls0, hls, -, -⟩, hltr⟩ := fontErr_zero (HFE.out.symm.trans hFE0)
              have hd4 := HD4.out rfl
              have HLt := Lib.hid hltr; have HD := Lib.hid hd4
              have k1 := (w21.bl hb216).all5
              obtain ⟨ad0, rfl, -⟩ := HL.out.1.2 (by omega)
              clear hltr hd4 hFE0
              go_wp2_with fail
              go_loopw [196, 22, 23, 24] (fun u a s t wr => ∃ (i : Nat), i ≤ ls.length ∧ u = .int .i64 i ∧ a = .int .i64 (apOut ls i).1 ∧ s = .string ⟨(apOut ls i).2.1.toArray⟩ ∧ t = .string ⟨(apOut ls i).2.2.toArray⟩ ∧ Bl w2 wr) (fun u _ _ _ _ => ls.length - (RowKit.intOf u).toNat)
              case atStart => exact ⟨0, Nat.zero_le _, rfl, rfl, rfl, rfl, hb216⟩
              case round =>
                clear k1
                rename World => wr
                obtain ⟨i, hi, rfl, rfl, rfl, rfl, hbr⟩ := hrel
                have k1 := (w21.bl hbr).all5
                by_cases hlt : i < ls.length
                · have hg : ls[i]? = some ls[i] := List.getElem?_eq_getElem hlt
                  obtain ⟨x, hx⟩ : ∃ x, x = ls[i] := ⟨_, rfl⟩
                  rw [← hx] at hg
                  have hso := apOut_succ hg
                  obtain ⟨b0, hb0⟩ : ∃ b, b = apOut ls i := ⟨_, rfl⟩
                  rw [← hb0] at hso ⊢
                  obtain ⟨x1, x2, x3, x4⟩ := HLt.out x (List.mem_of_getElem? hg)
                  obtain ⟨V, U, e1', e2', e3', hV, hU, -⟩ := page_nat x2
                  have HG := Lib.hid hg; have HE := Lib.hid (And.intro e1' (And.intro e2' e3')); have HSo := Lib.hid hso
                  clear hg hx e1' e2' e3' x1 x2 x3 x4 hso hb0
                  go_wp2_with fail
                  go_loopw [26, 22, 23, 24] (fun u a s t wq => ∃ (n : Nat), i + 1 + n ≤ ls.length ∧ u = .int .i64 ((i + 1 + n : Nat) : Int) ∧ a = .int .i64 (apIn ls x i b0 n).1 ∧ s = .string ⟨(apIn ls x i b0 n).2.1.toArray⟩ ∧ t = .string ⟨(apIn ls x i b0 n).2.2.toArray⟩ ∧ Bl w2 wq) (fun u _ _ _ _ => ls.length - (RowKit.intOf u).toNat)
                  case atStart => exact ⟨0, hlt, by go_num, rfl, rfl, rfl, hbr⟩
                  case round =>
                    clear k1
                    rename World => wq
                    obtain ⟨n, hn', rfl, rfl, rfl, rfl, hbq⟩ := hrel
                    have k1 := (w21.bl hbq).all5
                    by_cases hjl : i + 1 + n < ls.length
                    · have hjg : ls[i + 1 + n]? = some ls[i + 1 + n] := List.getElem?_eq_getElem hjl
                      obtain ⟨y, hy⟩ : ∃ y, y = ls[i + 1 + n] := ⟨_, rfl⟩
                      rw [← hy] at hjg
                      obtain ⟨ad, e, i1, i2, i3, i4⟩ := (HL.out.bl hbq).at_ HG.out
                      injection e with e
                      subst e
                      obtain ⟨ad, e, j1, j2, j3, j4⟩ := (HL.out.bl hbq).at_ hjg
                      injection e with e
                      subst e
                      have hrx := ((HL.out.bl hbq).2 x (List.mem_of_getElem? HG.out)).1
                      have hry := ((HL.out.bl hbq).2 y (List.mem_of_getElem? hjg)).1
                      obtain ⟨y1, y2, y3, y4⟩ := HLt.out y (List.mem_of_getElem? hjg)
                      obtain ⟨V2, U2, f1, f2, f3, hV2, hU2, -⟩ := page_nat y2
                      rw [HE.out.2.2] at hrx
                      rw [f3] at hry
                      rw [HE.out.1] at i2
                      rw [HE.out.2.1] at i3
                      rw [HE.out.2.2] at i4
                      rw [f1] at j2
                      rw [f2] at j3
                      rw [f3] at j4
                      have hsi : apIn ls x i b0 (n + 1) = apStep (apIn ls x i b0 n) x y := apIn_succ hjg
                      have hfr : far0 x y = farN (inkF x.bs V U) (inkF y.bs V2 U2) V U V2 U2 0 := by unfold far0 farR; rw [HE.out.1, HE.out.2.1, f1, f2]; rfl
                      obtain ⟨b1, hb1⟩ : ∃ b, b = apIn ls x i b0 n := ⟨_, rfl⟩
                      obtain ⟨bm, bs1, bs2⟩ := b1
                      rw [← hb1] at hsi ⊢
                      have hds := fun wx (hx : Bl wq wx) => farOf_any V U V2 U2 0 x.A y.A x.c y.c x.bs y.bs wx (hrx.bl hx) (hry.bl hx) hV hU hV2 hU2 (by omega)
                      rw [← hfr] at hds
                      obtain ⟨F, hF⟩ : ∃ F, F = far0 x y := ⟨_, rfl⟩
                      rw [← hF] at hds
                      have HSi := Lib.hid hsi; have Hds := Lib.hid hds; have HF := Lib.hid hF
                      obtain ⟨j, hj⟩ : ∃ j, j = i + 1 + n := ⟨_, rfl⟩
                      rw [← hj] at j1 j2 j3 j4 hjl ⊢
                      have hic : (i : Int) < (ls.length : Int) := by omega
                      have hjc : (j : Int) < (ls.length : Int) := by omega
                      have HJ := Lib.hid hj
                      clear hjg hy f1 f2 f3 hrx hry y1 y2 y3 y4 hsi hfr hb1 hds hF hj
                      go_upto_region 27 with fail
                      refine wp_region_flow [(true, 0), (true, 1), (true, 2), (true, 3), (true, 4), (true, 5), (true, 6), (true, 7), (true, 8), (true, 9), (true, 10), (true, 11), (false, 12), (true, 13)] (fun _ => false) (by kernel_rfl) (by kernel_rfl) (by kernel_rfl) (by kernel_rfl) ?_
                      iterate 1
                        apply Flow.calm2 _ _ rfl rfl
                        · intro w' hb' K' hK'
                          obtain ⟨hc', hf'⟩ := hb'.rule
                          go_simp
                          try go_ints
                          exact hK'
                        · intro K' hK'
                          simp only [Act.put, List.setIfInBounds_toArray, List.set_cons_zero, List.set_cons_succ]
                          exact hK'
                      iterate 1
                        apply Flow.calm2 _ _ rfl rfl
                        · intro w' hb' K' hK'
                          obtain ⟨hc', hf'⟩ := hb'.rule
                          go_simp
                          try go_ints
                          exact hK'
                        · intro K' hK'
                          simp only [Act.put, List.setIfInBounds_toArray, List.set_cons_zero, List.set_cons_succ]
                          exact hK'
                      iterate 1
                        apply Flow.mv _ rfl
                        · intro K' hK'
                          simp only [Act.put, Act.eval, List.setIfInBounds_toArray, List.set_cons_zero, List.set_cons_succ, arr_getD, List.getD_cons_zero, List.getD_cons_succ]
                          exact hK'
                      iterate 1
                        apply Flow.calm2 _ _ rfl rfl
                        · intro w' hb' K' hK'
                          obtain ⟨hc', hf'⟩ := hb'.rule
                          go_simp
                          try go_ints
                          exact hK'
                        · intro K' hK'
                          simp only [Act.put, List.setIfInBounds_toArray, List.set_cons_zero, List.set_cons_succ]
                          exact hK'
                      iterate 1
                        apply Flow.calm2 _ _ rfl rfl
                        · intro w' hb' K' hK'
                          obtain ⟨hc', hf'⟩ := hb'.rule
                          go_simp
                          try go_ints
                          exact hK'
                        · intro K' hK'
                          simp only [Act.put, List.setIfInBounds_toArray, List.set_cons_zero, List.set_cons_succ]
                          exact hK'
                      iterate 1
                        apply Flow.calm2 _ _ rfl rfl
                        · intro w' hb' K' hK'
                          obtain ⟨hc', hf'⟩ := hb'.rule
                          go_simp
                          try go_ints
                          exact hK'
                        · intro K' hK'
                          simp only [Act.put, List.setIfInBounds_toArray, List.set_cons_zero, List.set_cons_succ]
                          exact hK'
                      iterate 1
                        apply Flow.calm2 _ _ rfl rfl
                        · intro w' hb' K' hK'
                          obtain ⟨hc', hf'⟩ := hb'.rule
                          go_simp
                          try go_ints
                          exact hK'
                        · intro K' hK'
                          simp only [Act.put, List.setIfInBounds_toArray, List.set_cons_zero, List.set_cons_succ]
                          exact hK'
                      iterate 1
                        apply Flow.calm2 _ _ rfl rfl
                        · intro w' hb' K' hK'
                          obtain ⟨hc', hf'⟩ := hb'.rule
                          go_simp
                          try go_ints
                          exact hK'
                        · intro K' hK'
                          simp only [Act.put, List.setIfInBounds_toArray, List.set_cons_zero, List.set_cons_succ]
                          exact hK'
                      iterate 1
                        apply Flow.mv _ rfl
                        · intro K' hK'
                          simp only [Act.put, Act.eval, List.setIfInBounds_toArray, List.set_cons_zero, List.set_cons_succ, arr_getD, List.getD_cons_zero, List.getD_cons_succ]
                          exact hK'
                      iterate 1
                        apply Flow.calm2 _ _ rfl rfl
                        · intro w' hb' K' hK'
                          obtain ⟨hc', hf'⟩ := hb'.rule
                          go_simp
                          try go_ints
                          exact hK'
                        · intro K' hK'
                          simp only [Act.put, List.setIfInBounds_toArray, List.set_cons_zero, List.set_cons_succ]
                          exact hK'
                      iterate 1
                        apply Flow.calm2 _ _ rfl rfl
                        · intro w' hb' K' hK'
                          obtain ⟨hc', hf'⟩ := hb'.rule
                          go_simp
                          try go_ints
                          exact hK'
                        · intro K' hK'
                          simp only [Act.put, List.setIfInBounds_toArray, List.set_cons_zero, List.set_cons_succ]
                          exact hK'
                      iterate 1
                        apply Flow.calm2 _ _ rfl rfl
                        · intro w' hb' K' hK'
                          obtain ⟨hc', hf'⟩ := hb'.rule
                          go_simp
                          try go_ints
                          exact hK'
                        · intro K' hK'
                          simp only [Act.put, List.setIfInBounds_toArray, List.set_cons_zero, List.set_cons_succ]
                          exact hK'
                      apply Flow.move rfl
                      go_wp2_with fail
                      refine (Hds.out _ (Bl.refl wq).drew).mono ?_
                      rintro e w9 ⟨rfl, HB1⟩
                      go_wp2_with fail
                      refine ⟨fun _ => (by first | exact HB1 | exact Bl.refl _), ?_⟩
                      iterate 1
                        apply Flow.asg _ rfl
                        · intro K' hK'
                          simp only [Act.put, Act.eval, List.setIfInBounds_toArray, List.set_cons_zero, List.set_cons_succ, arr_getD, List.getD_cons_zero, List.getD_cons_succ]
                          exact hK'
                      refine Flow.done ?_
                      have hb9 : Bl wq w9 := (Bl.refl wq).drew.trans HB1
                      have hb29 := hbq.trans hb9
                      have I1 := Lib.hid (hb9.at i1); have J1 := Lib.hid (hb9.at j1)
                      clear k1 i1 i2 i3 i4 j1 j2 j3 j4 Hds HB1
                      have k1 := (w21.bl hb29).all5
                      have i1 := I1.out; have j1 := J1.out
                      by_cases c1 : bm < 0
                      · have HR := Lib.hid (show apIn ls x i b0 (n + 1) = (F, x.text, y.text) by rw [HSi.out, apStep_lt (.inl c1), HF.out])
                        go_upto_region 29 with fail
                        refine wp_region_flow [(true, 0), (true, 1), (true, 2), (true, 3), (true, 4), (true, 5), (true, 6), (true, 7), (true, 8), (true, 9), (true, 10), (true, 11), (true, 12), (true, 13), (true, 14), (true, 15)] (fun _ => false) (by kernel_rfl) (by kernel_rfl) (by kernel_rfl) (by kernel_rfl) ?_
                        iterate 1
                          apply Flow.mv _ rfl
                          · intro K' hK'
                            simp only [Act.put, Act.eval, List.setIfInBounds_toArray, List.set_cons_zero, List.set_cons_succ, arr_getD, List.getD_cons_zero, List.getD_cons_succ]
                            exact hK'
                        iterate 1
                          apply Flow.calm2 _ _ rfl rfl
                          · intro w' hb' K' hK'
                            obtain ⟨hc', hf'⟩ := hb'.rule
                            go_simp
                            try go_ints
                            exact hK'
                          · intro K' hK'
                            simp only [Act.put, List.setIfInBounds_toArray, List.set_cons_zero, List.set_cons_succ]
                            exact hK'
                        iterate 1
                          apply Flow.calm2 _ _ rfl rfl
                          · intro w' hb' K' hK'
                            obtain ⟨hc', hf'⟩ := hb'.rule
                            go_simp
                            try go_ints
                            exact hK'
                          · intro K' hK'
                            simp only [Act.put, List.setIfInBounds_toArray, List.set_cons_zero, List.set_cons_succ]
                            exact hK'
                        iterate 1
                          apply Flow.mv _ rfl
                          · intro K' hK'
                            simp only [Act.put, Act.eval, List.setIfInBounds_toArray, List.set_cons_zero, List.set_cons_succ, arr_getD, List.getD_cons_zero, List.getD_cons_succ]
                            exact hK'
                        iterate 1
                          apply Flow.calm2 _ _ rfl rfl
                          · intro w' hb' K' hK'
                            obtain ⟨hc', hf'⟩ := hb'.rule
                            go_simp
                            try go_ints
                            exact hK'
                          · intro K' hK'
                            simp only [Act.put, List.setIfInBounds_toArray, List.set_cons_zero, List.set_cons_succ]
                            exact hK'
                        iterate 1
                          apply Flow.calm2 _ _ rfl rfl
                          · intro w' hb' K' hK'
                            obtain ⟨hc', hf'⟩ := hb'.rule
                            go_simp
                            try go_ints
                            exact hK'
                          · intro K' hK'
                            simp only [Act.put, List.setIfInBounds_toArray, List.set_cons_zero, List.set_cons_succ]
                            exact hK'
                        iterate 1
                          apply Flow.calm2 _ _ rfl rfl
                          · intro w' hb' K' hK'
                            obtain ⟨hc', hf'⟩ := hb'.rule
                            go_simp
                            try go_ints
                            exact hK'
                          · intro K' hK'
                            simp only [Act.put, List.setIfInBounds_toArray, List.set_cons_zero, List.set_cons_succ]
                            exact hK'
                        iterate 1
                          apply Flow.calm2 _ _ rfl rfl
                          · intro w' hb' K' hK'
                            obtain ⟨hc', hf'⟩ := hb'.rule
                            go_simp
                            try go_ints
                            exact hK'
                          · intro K' hK'
                            simp only [Act.put, List.setIfInBounds_toArray, List.set_cons_zero, List.set_cons_succ]
                            exact hK'
                        iterate 1
                          apply Flow.calm2 _ _ rfl rfl
                          · intro w' hb' K' hK'
                            obtain ⟨hc', hf'⟩ := hb'.rule
                            go_simp
                            try go_ints
                            exact hK'
                          · intro K' hK'
                            simp only [Act.put, List.setIfInBounds_toArray, List.set_cons_zero, List.set_cons_succ]
                            exact hK'
                        iterate 1
                          apply Flow.mv _ rfl
                          · intro K' hK'
                            simp only [Act.put, Act.eval, List.setIfInBounds_toArray, List.set_cons_zero, List.set_cons_succ, arr_getD, List.getD_cons_zero, List.getD_cons_succ]
                            exact hK'
                        iterate 1
                          apply Flow.calm2 _ _ rfl rfl
                          · intro w' hb' K' hK'
                            obtain ⟨hc', hf'⟩ := hb'.rule
                            go_simp
                            try go_ints
                            exact hK'
                          · intro K' hK'
                            simp only [Act.put, List.setIfInBounds_toArray, List.set_cons_zero, List.set_cons_succ]
                            exact hK'
                        iterate 1
                          apply Flow.calm2 _ _ rfl rfl
                          · intro w' hb' K' hK'
                            obtain ⟨hc', hf'⟩ := hb'.rule
                            go_simp
                            try go_ints
                            exact hK'
                          · intro K' hK'
                            simp only [Act.put, List.setIfInBounds_toArray, List.set_cons_zero, List.set_cons_succ]
                            exact hK'
                        iterate 1
                          apply Flow.calm2 _ _ rfl rfl
                          · intro w' hb' K' hK'
                            obtain ⟨hc', hf'⟩ := hb'.rule
                            go_simp
                            try go_ints
                            exact hK'
                          · intro K' hK'
                            simp only [Act.put, List.setIfInBounds_toArray, List.set_cons_zero, List.set_cons_succ]
                            exact hK'
                        iterate 3
                          apply Flow.asg _ rfl
                          · intro K' hK'
                            simp only [Act.put, Act.eval, List.setIfInBounds_toArray, List.set_cons_zero, List.set_cons_succ, arr_getD, List.getD_cons_zero, List.getD_cons_succ]
                            exact hK'
                        refine Flow.done ?_
                        go_wp2_with fail
                        have hj := HJ.out
                        exact ⟨⟨n + 1, by omega, by rw [show i + 1 + (n + 1) = j + 1 by omega]; go_num, by rw [HR.out], by rw [HR.out], by rw [HR.out], hb29.drew⟩, by simp [RowKit.intOf] <;> omega⟩
                      · by_cases c2 : F < bm
                        · have HR := Lib.hid (show apIn ls x i b0 (n + 1) = (F, x.text, y.text) by rw [HSi.out, apStep_lt (.inr (by rw [← HF.out]; exact c2)), HF.out])
                          go_upto_region 29 with fail
                          refine wp_region_flow [(true, 0), (true, 1), (true, 2), (true, 3), (true, 4), (true, 5), (true, 6), (true, 7), (true, 8), (true, 9), (true, 10), (true, 11), (true, 12), (true, 13), (true, 14), (true, 15)] (fun _ => false) (by kernel_rfl) (by kernel_rfl) (by kernel_rfl) (by kernel_rfl) ?_
                          iterate 1
                            apply Flow.mv _ rfl
                            · intro K' hK'
                              simp only [Act.put, Act.eval, List.setIfInBounds_toArray, List.set_cons_zero, List.set_cons_succ, arr_getD, List.getD_cons_zero, List.getD_cons_succ]
                              exact hK'
                          iterate 1
                            apply Flow.calm2 _ _ rfl rfl
                            · intro w' hb' K' hK'
                              obtain ⟨hc', hf'⟩ := hb'.rule
                              go_simp
                              try go_ints
                              exact hK'
                            · intro K' hK'
                              simp only [Act.put, List.setIfInBounds_toArray, List.set_cons_zero, List.set_cons_succ]
                              exact hK'
                          iterate 1
                            apply Flow.calm2 _ _ rfl rfl
                            · intro w' hb' K' hK'
                              obtain ⟨hc', hf'⟩ := hb'.rule
                              go_simp
                              try go_ints
                              exact hK'
                            · intro K' hK'
                              simp only [Act.put, List.setIfInBounds_toArray, List.set_cons_zero, List.set_cons_succ]
                              exact hK'
                          iterate 1
                            apply Flow.mv _ rfl
                            · intro K' hK'
                              simp only [Act.put, Act.eval, List.setIfInBounds_toArray, List.set_cons_zero, List.set_cons_succ, arr_getD, List.getD_cons_zero, List.getD_cons_succ]
                              exact hK'
                          iterate 1
                            apply Flow.calm2 _ _ rfl rfl
                            · intro w' hb' K' hK'
                              obtain ⟨hc', hf'⟩ := hb'.rule
                              go_simp
                              try go_ints
                              exact hK'
                            · intro K' hK'
                              simp only [Act.put, List.setIfInBounds_toArray, List.set_cons_zero, List.set_cons_succ]
                              exact hK'
                          iterate 1
                            apply Flow.calm2 _ _ rfl rfl
                            · intro w' hb' K' hK'
                              obtain ⟨hc', hf'⟩ := hb'.rule
                              go_simp
                              try go_ints
                              exact hK'
                            · intro K' hK'
                              simp only [Act.put, List.setIfInBounds_toArray, List.set_cons_zero, List.set_cons_succ]
                              exact hK'
                          iterate 1
                            apply Flow.calm2 _ _ rfl rfl
                            · intro w' hb' K' hK'
                              obtain ⟨hc', hf'⟩ := hb'.rule
                              go_simp
                              try go_ints
                              exact hK'
                            · intro K' hK'
                              simp only [Act.put, List.setIfInBounds_toArray, List.set_cons_zero, List.set_cons_succ]
                              exact hK'
                          iterate 1
                            apply Flow.calm2 _ _ rfl rfl
                            · intro w' hb' K' hK'
                              obtain ⟨hc', hf'⟩ := hb'.rule
                              go_simp
                              try go_ints
                              exact hK'
                            · intro K' hK'
                              simp only [Act.put, List.setIfInBounds_toArray, List.set_cons_zero, List.set_cons_succ]
                              exact hK'
                          iterate 1
                            apply Flow.calm2 _ _ rfl rfl
                            · intro w' hb' K' hK'
                              obtain ⟨hc', hf'⟩ := hb'.rule
                              go_simp
                              try go_ints
                              exact hK'
                            · intro K' hK'
                              simp only [Act.put, List.setIfInBounds_toArray, List.set_cons_zero, List.set_cons_succ]
                              exact hK'
                          iterate 1
                            apply Flow.mv _ rfl
                            · intro K' hK'
                              simp only [Act.put, Act.eval, List.setIfInBounds_toArray, List.set_cons_zero, List.set_cons_succ, arr_getD, List.getD_cons_zero, List.getD_cons_succ]
                              exact hK'
                          iterate 1
                            apply Flow.calm2 _ _ rfl rfl
                            · intro w' hb' K' hK'
                              obtain ⟨hc', hf'⟩ := hb'.rule
                              go_simp
                              try go_ints
                              exact hK'
                            · intro K' hK'
                              simp only [Act.put, List.setIfInBounds_toArray, List.set_cons_zero, List.set_cons_succ]
                              exact hK'
                          iterate 1
                            apply Flow.calm2 _ _ rfl rfl
                            · intro w' hb' K' hK'
                              obtain ⟨hc', hf'⟩ := hb'.rule
                              go_simp
                              try go_ints
                              exact hK'
                            · intro K' hK'
                              simp only [Act.put, List.setIfInBounds_toArray, List.set_cons_zero, List.set_cons_succ]
                              exact hK'
                          iterate 1
                            apply Flow.calm2 _ _ rfl rfl
                            · intro w' hb' K' hK'
                              obtain ⟨hc', hf'⟩ := hb'.rule
                              go_simp
                              try go_ints
                              exact hK'
                            · intro K' hK'
                              simp only [Act.put, List.setIfInBounds_toArray, List.set_cons_zero, List.set_cons_succ]
                              exact hK'
                          iterate 3
                            apply Flow.asg _ rfl
                            · intro K' hK'
                              simp only [Act.put, Act.eval, List.setIfInBounds_toArray, List.set_cons_zero, List.set_cons_succ, arr_getD, List.getD_cons_zero, List.getD_cons_succ]
                              exact hK'
                          refine Flow.done ?_
                          go_wp2_with fail
                          have hj := HJ.out
                          exact ⟨⟨n + 1, by omega, by rw [show i + 1 + (n + 1) = j + 1 by omega]; go_num, by rw [HR.out], by rw [HR.out], by rw [HR.out], hb29.drew⟩, by simp [RowKit.intOf] <;> omega⟩
                        · have HR := Lib.hid (show apIn ls x i b0 (n + 1) = (bm, bs1, bs2) by rw [HSi.out, apStep_ge c1 (by rw [← HF.out]; exact c2)])
                          go_wp2_with fail
                          have hj := HJ.out
                          exact ⟨⟨n + 1, by omega, by rw [show i + 1 + (n + 1) = j + 1 by omega]; go_num, by rw [HR.out], by rw [HR.out], by rw [HR.out], hb29⟩, by simp [RowKit.intOf] <;> omega⟩
                    · have hso2 : apOut ls (i + 1) = apIn ls x i b0 n := by rw [HSo.out, show ls.length - (i + 1) = n by omega]
                      have HSo2 := Lib.hid hso2
                      clear hso2
                      have hjc : ¬ (((i + 1 + n : Nat) : Int) < (ls.length : Int)) := by omega
                      go_wp2_with fail
                      exact ⟨⟨i + 1, hlt, by go_num, by rw [HSo2.out], by rw [HSo2.out], by rw [HSo2.out], hbq⟩, by simp [RowKit.intOf] <;> omega⟩
                · obtain rfl : i = ls.length := by omega
                  rw [← HD.out]
                  go_wp2_with fail
                  go_ret
                  exact ⟨by first | rfl | simp, w2b.trans hbr⟩

end Go.Proofs.YtjelhdpcaileiaaDoor
