/- The law on pages as bytes. -/
import Derived.Test.YtdbnacjdinolcaaGreatDoorMClaimFiles15
import Derived.Test.YtdbnacjdinolcaaGreatDoorMClaimFiles1
import Derived.Deep.CutRange
import Derived.Deep.Light

namespace Go.Proofs.YtdbnacjdinolcaaGreatDoor
open Go.RowKit Go.Shelf

/-! ### plain -/
theorem canon_short {kind tail rest : List UInt8} {w h : Nat} (hw : w ≤ 9999) (hh : h ≤ 9999) (hk : kind.length ≤ 2) (ht : tail.length ≤ 4) : (canonF kind tail w h rest).length ≤ 17 + rest.length := by
  have h1 := dec_len hw
  have h2 := dec_len hh
  unfold canonF
  simp only [List.length_append, List.length_cons, List.length_nil]
  omega
theorem decG_encoded {W H : Nat} {gs : List UInt8} (h1 : 1 ≤ W) (h2 : W ≤ 4000) (h3 : 1 ≤ H) (h4 : H ≤ 4000) (hz : sizeErr W H = 0) (hn : gs.length = W * H) (hl : W * H ≤ 1048576) : decG (canonF p5K p5T W H gs) = (0, W, H, gs) := by
  have hs := canon_short (kind := p5K) (tail := p5T) (rest := gs) (w := W) (h := H) (by omega) (by omega) (by decide) (by decide)
  rw [decG_head (by omega) (headP_iff.2 ⟨⟨h1, by omega⟩, ⟨h3, by omega⟩, rfl⟩), if_pos hn, if_pos hz]
theorem unpB_packed {W H : Nat} {bs : List Bool} (h1 : 1 ≤ W) (h2 : W ≤ 4000) (h3 : 1 ≤ H) (h4 : H ≤ 4000) (hz : sizeErr W H = 0) (hn : bs.length = W * H) (hl : W * H ≤ 1048576) : unpB (canonF p4K [] W H (packB W H bs)) = (0, W, H, bs) := by
  have hs := canon_short (kind := p4K) (tail := []) (rest := packB W H bs) (w := W) (h := H) (by omega) (by omega) (by decide) (by decide)
  rw [packB_len] at hs
  have hLW : longOf W * H ≤ W * H := Nat.mul_le_mul_right H (by unfold longOf; omega)
  rw [unpB_head (by omega) (headP_iff.2 ⟨⟨h1, by omega⟩, ⟨h3, by omega⟩, rfl⟩), if_pos (packB_len W H bs), if_pos ((spareOk_iff W _).2 (spare_pack bs h1 hn)), if_pos hz, unpack_pack W H bs hn]
theorem decG_bound (f : List UInt8) : (decG f).2.1 * (decG f).2.2.1 ≤ 1099511627776 := by
  unfold decG
  split
  · exact Nat.zero_le _
  · rename_i hl
    cases hp : headPv p5K p5T f with
    | none => exact Nat.zero_le _
    | some x =>
      obtain ⟨W, H, rest⟩ := x
      obtain ⟨⟨a1, a2⟩, ⟨a3, a4⟩, -⟩ := headP_iff.1 hp
      have hWH : W * H ≤ 9999 * 9999 := Nat.mul_le_mul a2 a4
      simp only
      split
      · split
        · show W * H ≤ _
          omega
        · exact Nat.zero_le _
      · exact Nat.zero_le _
theorem unpB_bound (f : List UInt8) : (unpB f).2.1 * (unpB f).2.2.1 ≤ 1099511627776 := by
  unfold unpB
  split
  · exact Nat.zero_le _
  · rename_i hl
    cases hp : headPv p4K [] f with
    | none => exact Nat.zero_le _
    | some x =>
      obtain ⟨W, H, rest⟩ := x
      obtain ⟨⟨a1, a2⟩, ⟨a3, a4⟩, -⟩ := headP_iff.1 hp
      have hWH : W * H ≤ 9999 * 9999 := Nat.mul_le_mul a2 a4
      simp only
      split
      · split
        · split
          · show W * H ≤ _
            omega
          · exact Nat.zero_le _
        · exact Nat.zero_le _
      · exact Nat.zero_le _
theorem enc_nums (gs : List UInt8) : gs.map encB = (numsOf gs).map (Value.int .u8) := by
  unfold numsOf
  rw [List.map_map]
  rfl
theorem sameGrayB_any (W H : Nat) (v u : Value) (gs : List UInt8) (w : World) (hv : IsPage w v W H (gs.map encB)) (hu : IsPage w u W H (gs.map encB)) (hl : W * H ≤ 1099511627776) :
    Calls Tryz.prog 15 #[v, u] w fun e w' => e = .returned (.bool true) ∧ Bl w w' := by
  rw [enc_nums] at hv hu
  exact sameGray_any W H v u _ w hv hu hl

set_option maxRecDepth 100000 in
set_option maxHeartbeats 40000000 in
theorem lawFiles_any (gW gH : Int) (G : Option Addr) (gn gc : Nat) (gs : List UInt8) (bW bH : Int) (A : Option Addr) (an ac : Nat) (bs : List Bool) (F : Option Addr) (fn fc : Nat) (fb : List UInt8) (w : World)
    (hG : Reads w 1 G gn (gs.map encB)) (hA : Reads w 1 A an (bs.map .bool)) (hF : BRow w F fn fc fb) (hN : NumOk w) (hC : CutOk w) (hfl : fn ≤ 9223372036854775807) :
    Calls Tryz.prog 3 #[.agg #[.int .i64 gW, .int .i64 gH, .slice G gn gc], .agg #[.int .i64 bW, .int .i64 bH, .slice A an ac], .slice F fn fc] w fun e w2 => e = .returned (.bool true) ∧ Bl w w2 := by
  let w2 := ((w).alloc (.cells #[.int .i64 gW, .int .i64 gH, .slice G gn gc] 24)).alloc (.cells #[.int .i64 bW, .int .i64 bH, .slice A an ac] 27)
  have w2b : Bl w w2 := ((Bl.refl w).alloc _).alloc _
  have w21 : Blk w2 (w.heap.size) 24 #[.int .i64 gW, .int .i64 gH, .slice G gn gc] := by
    have h0 := Blk.new (w) 24 #[.int .i64 gW, .int .i64 gH, .slice G gn gc]
    exact (h0.alloc _)
  have w22 : Blk w2 (w.heap.size + 1) 27 #[.int .i64 bW, .int .i64 bH, .slice A an ac] := by
    have h0 := Blk.new ((w).alloc (.cells #[.int .i64 gW, .int .i64 gH, .slice G gn gc] 24)) 27 #[.int .i64 bW, .int .i64 bH, .slice A an ac]
    simp only [World.size_alloc] at h0
    exact h0
  have HG := Lib.hid (hG.bl w2b); have HA := Lib.hid (hA.bl w2b); have HF := Lib.hid (hF.bl w2b); have HN := Lib.hid (hN.bl w2b); have HC := Lib.hid (hC.bl w2b); have Hfl := Lib.hid hfl
  have HnG := Lib.hid (show gs.length = gn by have := hG.1; simpa using this)
  have HnA := Lib.hid (show bs.length = an by have := hA.1; simpa using this)
  clear hG hA hF hN hC hfl
  have k1 := w21.all3
  obtain ⟨E1, hE1⟩ : ∃ E, E = pageErr gW gH gn := ⟨_, rfl⟩
  obtain ⟨E2, hE2⟩ : ∃ E, E = pageErr bW bH an := ⟨_, rfl⟩
  have c1 := fun w h1 h2 => encode_any gW gH G gn gc gs w h1 h2
  have c2 := fun w h1 h2 => pack_any bW bH A an ac bs w h1 h2
  have c3 := fun w => grayError_any gW gH G gn gc w
  have c4 := fun w => bitsError_any bW bH A an ac w
  unfold EncRes at c1 c2
  rw [← hE1] at c1 c3
  rw [← hE2] at c2 c4
  have C1 := Lib.hid c1; have C2 := Lib.hid c2; have C3 := Lib.hid c3; have C4 := Lib.hid c4
  have HE1 := Lib.hid hE1; have HE2 := Lib.hid hE2
  clear c1 c2 c3 c4 hE1 hE2
  go_enter Tryz.func3, Tryz.ntmps3
  go_upto_region 1 with fail
  have hw2 : ((w.alloc (.cells #[.int .i64 gW, .int .i64 gH, .slice G gn gc] 24)).alloc (.cells #[.int .i64 bW, .int .i64 bH, .slice A an ac] 27)) = w2 := rfl
  rw [hw2]
  clear hw2
  clear_value w2
  go_wp2_with fail
  refine (C1.out _ HG.out HN.out).mono ?_
  rintro e w3 ⟨X, xn, xc, rfl, x1, x2, hb3⟩
  have k2 := (w22.bl hb3).all3
  have X1 := Lib.hid x1; have X2 := Lib.hid x2
  clear x1 x2 k1
  go_wp2_with fail
  refine (C2.out _ (HA.out.bl hb3) (HN.out.bl hb3)).mono ?_
  rintro e w4 ⟨Y, yn, yc, rfl, y1, y2, hb4⟩
  have X2' := Lib.hid (fun h => (X2.out h).bl hb4)
  have Y1 := Lib.hid y1; have Y2 := Lib.hid y2
  have hc4 := hb3.trans hb4
  have k1 := (w21.bl hc4).all3
  have k2' := (w22.bl hc4).all3
  clear y1 y2 k2 X2 hb3 hb4
  go_upto_region 3 with fail
  refine wp_region_flow [(true, 0), (true, 2), (false, 1), (false, 3), (true, 4), (true, 5)] (fun _ => false) (by kernel_rfl) (by kernel_rfl) (by kernel_rfl) (by kernel_rfl) ?_
  iterate 2
    apply Flow.calm2 _ _ rfl rfl
    · intro w' hb' K' hK'
      obtain ⟨hc', hf'⟩ := hb'.rule
      go_simp
      try go_ints
      exact hK'
    · intro K' hK'
      simp only [Act.put, List.setIfInBounds_toArray, List.set_cons_zero, List.set_cons_succ]
      exact hK'
  apply Flow.move rfl
  go_wp2_with fail
  refine (C3.out _).mono ?_
  rintro e w5 ⟨rfl, HB1⟩
  have hb5 : Bl w4 w5 := Bl.ofDrew HB1
  go_wp2_with fail
  refine ⟨fun _ => (by first | exact HB1 | exact Bl.refl _), ?_⟩
  apply Flow.move rfl
  go_wp2_with fail
  refine (C4.out _).mono ?_
  rintro e w6 ⟨rfl, HB2⟩
  go_wp2_with fail
  refine ⟨fun _ => (by first | exact HB2 | exact Bl.refl _), ?_⟩
  iterate 2
    apply Flow.asg _ rfl
    · intro K' hK'
      simp only [Act.put, Act.eval, List.setIfInBounds_toArray, List.set_cons_zero, List.set_cons_succ, arr_getD, List.getD_cons_zero, List.getD_cons_succ]
      exact hK'
  refine Flow.done ?_
  have hb6 := hb5.trans HB2
  have hc6 := hc4.trans hb6
  have X3 := Lib.hid (fun h => (X2'.out h).bl hb6); have Y3 := Lib.hid (fun h => (Y2.out h).bl hb6)
  clear k1 k2' X2' Y2 HB1 HB2 hb5 hc4 hb6
  go_upto_region 4 with fail
  go_cut [66] from 37 to 66 (fun s66 wc => s66 = .bool false ∧ Bl w6 wc)
  case first =>
    by_cases he1 : E1 = 0
    · have q1 : (E1 != 0) = false := by simp [he1]
      by_cases he2 : E2 = 0
      · have q2 : (E2 != 0) = false := by simp [he2]
        clear he1 he2
        go_wp2_with fail
        refine (pages_any _).mono ?_
        rintro e w7 ⟨rfl, hb7⟩
        go_wp2_with fail
        go_meet
        case rel => exact ⟨rfl, hb7⟩
      · have q2 : (E2 != 0) = true := by simp [he2]
        obtain rfl := Y1.out he2
        clear he1 he2
        go_wp2_with fail
        refine (pages_any _).mono ?_
        rintro e w7 ⟨rfl, hb7⟩
        go_wp2_with fail
        go_meet
        case rel => exact ⟨rfl, hb7⟩
    · have q1 : (E1 != 0) = true := by simp [he1]
      obtain rfl := X1.out he1
      by_cases he2 : E2 = 0
      · have q2 : (E2 != 0) = false := by simp [he2]
        clear he1 he2
        go_wp2_with fail
        refine (pages_any _).mono ?_
        rintro e w7 ⟨rfl, hb7⟩
        go_wp2_with fail
        go_meet
        case rel => exact ⟨rfl, hb7⟩
      · have q2 : (E2 != 0) = true := by simp [he2]
        obtain rfl := Y1.out he2
        clear he1 he2
        go_wp2_with fail
        refine (pages_any _).mono ?_
        rintro e w7 ⟨rfl, hb7⟩
        go_wp2_with fail
        go_meet
        case rel => exact ⟨rfl, hb7⟩
  case rest =>
  rename World => w7
  obtain ⟨rfl, hcut⟩ := hcut
  have hc7 := hc6.trans hcut
  have X4 := Lib.hid (fun h => (X3.out h).bl hcut); have Y4 := Lib.hid (fun h => (Y3.out h).bl hcut)
  clear hcut hc6 X3 Y3 X1 Y1 C1 C2 C3 C4
  go_upto_if 68 with fail
  go_cut [13, 14] from 68 to 88 (fun s13 s14 wc => Bl w7 wc)
  case first =>
    by_cases he : E1 = 0
    · have hq : (E1 == 0) = true := by simp [he]
      have hp := HE1.out.symm.trans he
      have hz := sizeErr_zero (pageErr_zero hp).1
      have hz0 := (pageErr_zero hp).1
      obtain ⟨W, H, rfl, rfl, rfl, u1, u2, u3⟩ := page_nat hp
      have hbr := X4.out he
      rw [Int.toNat_natCast, Int.toNat_natCast] at hbr
      have hdg := decG_encoded (W := W) (H := H) (gs := gs) (by go_light; omega) u1 (by go_light; omega) u2 hz0 HnG.out u3
      have hcl := canon_short (kind := p5K) (tail := p5T) (rest := gs) (w := W) (h := H) (by omega) (by omega) (by decide) (by decide)
      have hxl := hbr.len
      have hx63 : xn ≤ 9223372036854775807 := by have := HnG.out; go_light; omega
      have Hbr := Lib.hid hbr; have Hdg := Lib.hid hdg; have Hx63 := Lib.hid hx63
      have Hu := Lib.hid (show W ≤ 4000 ∧ H ≤ 4000 ∧ W * H ≤ 1099511627776 from ⟨u1, u2, Nat.le_trans u3 (by decide)⟩)
      rw [hq]
      clear he hp hz hz0 hbr hdg hcl hxl hx63 u1 u2 u3 X4
      go_wp2_with fail
      refine (decode_any _ X xn xc _ Hbr.out (HN.out.bl hc7) (HC.out.bl hc7) Hx63.out).mono ?_
      rw [Hdg.out]
      rintro e w8 ⟨v, rfl, hpg, hb8⟩
      obtain ⟨R, rc, rfl, hR⟩ := hpg
      simp only at hR
      have b9 := Blk.new w8 24 #[.int .i64 W, .int .i64 H, .slice R (W * H) rc]
      have hb9 : Bl w7 (w8.alloc (.cells #[.int .i64 W, .int .i64 H, .slice R (W * H) rc] 24)) := hb8.alloc _
      have hR9 := hR.bl ((Bl.refl w8).alloc (.cells #[.int .i64 W, .int .i64 H, .slice R (W * H) rc] 24))
      have HR9 := Lib.hid hR9
      clear hR hR9
      go_upto_region 8 with fail
      generalize hw9 : w8.alloc (.cells #[.int .i64 W, .int .i64 H, .slice R (W * H) rc] 24) = w9 at b9 hb9 HR9 ⊢
      clear hw9 hb8
      have k1 := (w21.bl (hc7.trans hb9)).all3
      go_wp2_with fail
      refine (encodedGray_any W H G gc gs _ (HG.out.bl (hc7.trans hb9)) (HN.out.bl (hc7.trans hb9)) Hu.out.1 Hu.out.2.1).mono ?_
      rintro e w10 ⟨Q, qn, qc, rfl, hQ, hb10⟩
      have hb10' := hb9.trans hb10
      have k3 := (w21.bl (hc7.trans hb10')).all3
      have k4 := (b9.bl hb10).all3
      have Heq := Lib.hid (bequal_any X Q xn xc qn qc _ _ _ (Hbr.out.1.bl hb10') hQ)
      clear k1 hQ
      go_wp2_with fail
      refine Heq.out.mono ?_
      rw [beq_self_eq_true]
      rintro e w' ⟨rfl, rfl⟩
      go_wp2_with fail
      refine (sameGrayB_any W H _ _ gs _ ⟨G, gc, rfl, HG.out.bl (hc7.trans hb10')⟩ ⟨R, rc, rfl, HR9.out.bl hb10⟩ Hu.out.2.2).mono ?_
      rintro e w11 ⟨rfl, hb11⟩
      go_wp2_with fail
      go_meet
      case rel => exact hb10'.trans hb11
    · have hq : (E1 == 0) = false := by simp [he]
      rw [hq]
      clear he
      go_wp2_with fail
      go_meet
      case rel => exact Bl.refl _
  case rest =>
  rename World => w8
  have hc8 := hc7.trans hcut
  have Y5 := Lib.hid (fun h => (Y4.out h).bl hcut)
  clear hcut hc7 X4 Y4
  go_upto_if 90 with fail
  go_cut [15, 16] from 90 to 110 (fun s15 s16 wc => Bl w8 wc)
  case first =>
    by_cases he : E2 = 0
    · have hq : (E2 == 0) = true := by simp [he]
      have hp := HE2.out.symm.trans he
      have hz := sizeErr_zero (pageErr_zero hp).1
      have hz0 := (pageErr_zero hp).1
      obtain ⟨W, H, rfl, rfl, rfl, u1, u2, u3⟩ := page_nat hp
      have hbr := Y5.out he
      rw [Int.toNat_natCast, Int.toNat_natCast] at hbr
      have w1' : 1 ≤ W := by go_light; omega
      have hdg := unpB_packed (W := W) (H := H) (bs := bs) w1' u1 (by go_light; omega) u2 hz0 HnA.out u3
      have hcl := canon_short (kind := p4K) (tail := []) (rest := packB W H bs) (w := W) (h := H) (by omega) (by omega) (by decide) (by decide)
      rw [packB_len] at hcl
      have hLW : longOf W * H ≤ W * H := Nat.mul_le_mul_right H (by unfold longOf; omega)
      have hxl := hbr.len
      have hx63 : yn ≤ 9223372036854775807 := by go_light; omega
      have Hbr := Lib.hid hbr; have Hdg := Lib.hid hdg; have Hx63 := Lib.hid hx63
      have Hu := Lib.hid (show 1 ≤ W ∧ W ≤ 9999 ∧ H ≤ 9999 ∧ W * H ≤ 1099511627776 ∧ longOf W * H ≤ 1048606 from ⟨w1', by omega, by omega, Nat.le_trans u3 (by decide), by omega⟩)
      rw [hq]
      clear he hp hz hz0 hbr hdg hcl hxl hx63 u1 u2 u3 Y5 w1' hLW
      go_wp2_with fail
      refine (unpack_any _ Y yn yc _ Hbr.out (HN.out.bl hc8) (HC.out.bl hc8) Hx63.out).mono ?_
      rw [Hdg.out]
      rintro e w9 ⟨v, rfl, hpg, hb9⟩
      obtain ⟨R, rc, rfl, hR⟩ := hpg
      simp only at hR
      have b10 := Blk.new w9 27 #[.int .i64 W, .int .i64 H, .slice R (W * H) rc]
      have hb10 : Bl w8 (w9.alloc (.cells #[.int .i64 W, .int .i64 H, .slice R (W * H) rc] 27)) := hb9.alloc _
      have hR10 := hR.bl ((Bl.refl w9).alloc (.cells #[.int .i64 W, .int .i64 H, .slice R (W * H) rc] 27))
      have HR10 := Lib.hid hR10
      clear hR hR10
      go_upto_region 12 with fail
      generalize hw10 : w9.alloc (.cells #[.int .i64 W, .int .i64 H, .slice R (W * H) rc] 27) = w10 at b10 hb10 HR10 ⊢
      clear hw10 hb9
      have k1 := (w22.bl (hc8.trans hb10)).all3
      go_wp2_with fail
      refine (packedBits_any W H A ac bs _ (HA.out.bl (hc8.trans hb10)) (HN.out.bl (hc8.trans hb10)) Hu.out.1 Hu.out.2.1 Hu.out.2.2.1 Hu.out.2.2.2.2).mono ?_
      rintro e w11 ⟨Q, qn, qc, rfl, hQ, hb11⟩
      have hb11' := hb10.trans hb11
      have k3 := (w22.bl (hc8.trans hb11')).all3
      have k4 := (b10.bl hb11).all3
      have Heq := Lib.hid (bequal_any Y Q yn yc qn qc _ _ _ (Hbr.out.1.bl hb11') hQ)
      clear k1 hQ
      go_wp2_with fail
      refine Heq.out.mono ?_
      rw [beq_self_eq_true]
      rintro e w' ⟨rfl, rfl⟩
      go_wp2_with fail
      refine (sameBits_any W H _ _ bs _ ⟨A, ac, rfl, HA.out.bl (hc8.trans hb11')⟩ ⟨R, rc, rfl, HR10.out.bl hb11⟩ Hu.out.2.2.2.1).mono ?_
      rintro e w12 ⟨rfl, hb12⟩
      go_wp2_with fail
      go_meet
      case rel => exact hb11'.trans hb12
    · have hq : (E2 == 0) = false := by simp [he]
      rw [hq]
      clear he
      go_wp2_with fail
      go_meet
      case rel => exact Bl.refl _
  case rest =>
  rename World => w9
  have hc9 := hc8.trans hcut
  clear hcut hc8 Y5
  obtain ⟨⟨e1, V1, U1, p1⟩, hp1⟩ : ∃ r, r = decG fb := ⟨_, rfl⟩
  obtain ⟨⟨e2, V2, U2, p2⟩, hp2⟩ : ∃ r, r = unpB fb := ⟨_, rfl⟩
  have d1 := fun w h1 h2 h3 => decode_any fb F fn fc w h1 h2 h3 Hfl.out
  have d2 := fun w h1 h2 h3 => decodedGray_any fb F fn fc w h1 h2 h3 Hfl.out
  have d3 := fun w h1 h2 h3 => unpack_any fb F fn fc w h1 h2 h3 Hfl.out
  have d4 := fun w h1 h2 h3 => unpackedBits_any fb F fn fc w h1 h2 h3 Hfl.out
  have g1 := decG_bound fb
  have g2 := unpB_bound fb
  unfold GrayAns at d1 d2
  unfold BitsAns at d3 d4
  rw [← hp1] at d1 d2 g1
  rw [← hp2] at d3 d4 g2
  simp only at d1 d2 d3 d4 g1 g2
  have D1 := Lib.hid d1; have D2 := Lib.hid d2; have D3 := Lib.hid d3; have D4 := Lib.hid d4; have G1 := Lib.hid g1; have G2 := Lib.hid g2
  clear d1 d2 d3 d4 g1 g2 hp1 hp2
  go_wp2_with fail
  refine (D1.out _ (HF.out.bl hc9) (HN.out.bl hc9) (HC.out.bl hc9)).mono ?_
  rintro e w10 ⟨v, rfl, hpg, hb10⟩
  obtain ⟨R1, rc1, rfl, hR1⟩ := hpg
  have b11 := Blk.new w10 24 #[.int .i64 V1, .int .i64 U1, .slice R1 (V1 * U1) rc1]
  have hc11 : Bl w2 (w10.alloc (.cells #[.int .i64 V1, .int .i64 U1, .slice R1 (V1 * U1) rc1] 24)) := (hc9.trans hb10).alloc _
  have HR1 := Lib.hid (hR1.bl ((Bl.refl w10).alloc (.cells #[.int .i64 V1, .int .i64 U1, .slice R1 (V1 * U1) rc1] 24)))
  clear hR1
  go_upto_region 15 with fail
  generalize hw11 : w10.alloc (.cells #[.int .i64 V1, .int .i64 U1, .slice R1 (V1 * U1) rc1] 24) = w11 at b11 hc11 HR1 ⊢
  clear hw11 hb10 hc9
  go_wp2_with fail
  refine (D2.out _ (HF.out.bl hc11).1 (HN.out.bl hc11) (HC.out.bl hc11)).mono ?_
  rintro e w12 ⟨v, rfl, hpg, hb12⟩
  obtain ⟨R2, rc2, rfl, hR2⟩ := hpg
  have b13 := Blk.new w12 24 #[.int .i64 V1, .int .i64 U1, .slice R2 (V1 * U1) rc2]
  have hb13 : Bl w11 (w12.alloc (.cells #[.int .i64 V1, .int .i64 U1, .slice R2 (V1 * U1) rc2] 24)) := hb12.alloc _
  have HR2 := Lib.hid (hR2.bl ((Bl.refl w12).alloc (.cells #[.int .i64 V1, .int .i64 U1, .slice R2 (V1 * U1) rc2] 24)))
  clear hR2
  go_upto_region 16 with fail
  generalize hw13 : w12.alloc (.cells #[.int .i64 V1, .int .i64 U1, .slice R2 (V1 * U1) rc2] 24) = w13 at b13 hb13 HR2 ⊢
  clear hw13 hb12
  have hc13 := hc11.trans hb13
  go_wp2_with fail
  refine (D3.out _ (HF.out.bl hc13) (HN.out.bl hc13) (HC.out.bl hc13)).mono ?_
  rintro e w14 ⟨v, rfl, hpg, hb14⟩
  obtain ⟨R3, rc3, rfl, hR3⟩ := hpg
  have b15 := Blk.new w14 27 #[.int .i64 V2, .int .i64 U2, .slice R3 (V2 * U2) rc3]
  have hb15 : Bl w13 (w14.alloc (.cells #[.int .i64 V2, .int .i64 U2, .slice R3 (V2 * U2) rc3] 27)) := hb14.alloc _
  have HR3 := Lib.hid (hR3.bl ((Bl.refl w14).alloc (.cells #[.int .i64 V2, .int .i64 U2, .slice R3 (V2 * U2) rc3] 27)))
  clear hR3
  go_upto_region 17 with fail
  generalize hw15 : w14.alloc (.cells #[.int .i64 V2, .int .i64 U2, .slice R3 (V2 * U2) rc3] 27) = w15 at b15 hb15 HR3 ⊢
  clear hw15 hb14
  have hc15 := hc13.trans hb15
  go_wp2_with fail
  refine (D4.out _ (HF.out.bl hc15).1 (HN.out.bl hc15) (HC.out.bl hc15)).mono ?_
  rintro e w16 ⟨v, rfl, hpg, hb16⟩
  obtain ⟨R4, rc4, rfl, hR4⟩ := hpg
  have b17 := Blk.new w16 27 #[.int .i64 V2, .int .i64 U2, .slice R4 (V2 * U2) rc4]
  have hb17 : Bl w15 (w16.alloc (.cells #[.int .i64 V2, .int .i64 U2, .slice R4 (V2 * U2) rc4] 27)) := hb16.alloc _
  have HR4 := Lib.hid (hR4.bl ((Bl.refl w16).alloc (.cells #[.int .i64 V2, .int .i64 U2, .slice R4 (V2 * U2) rc4] 27)))
  clear hR4
  go_upto_region 18 with fail
  generalize hw17 : w16.alloc (.cells #[.int .i64 V2, .int .i64 U2, .slice R4 (V2 * U2) rc4] 27) = w17 at b17 hb17 HR4 ⊢
  clear hw17 hb16
  have h1_17 := hb13.trans (hb15.trans hb17)
  have k11 := (b11.bl h1_17).all3
  have k13 := (b13.bl (hb15.trans hb17)).all3
  have k15 := (b15.bl hb17).all3
  have k17 := b17.all3
  go_wp2_with fail
  refine (sameGrayB_any V1 U1 _ _ p1 _ ⟨R1, rc1, rfl, HR1.out.bl h1_17⟩ ⟨R2, rc2, rfl, HR2.out.bl (hb15.trans hb17)⟩ G1.out).mono ?_
  rintro e w18 ⟨rfl, hb18⟩
  have k15' := (b15.bl (hb17.trans hb18)).all3
  have k17' := (b17.bl hb18).all3
  clear k11 k13 k15 k17
  go_wp2_with fail
  refine (sameBits_any V2 U2 _ _ p2 _ ⟨R3, rc3, rfl, HR3.out.bl (hb17.trans hb18)⟩ ⟨R4, rc4, rfl, HR4.out.bl hb18⟩ G2.out).mono ?_
  rintro e w19 ⟨rfl, hb19⟩
  go_wp2_with fail
  go_ret
  exact ⟨rfl, w2b.trans (((hc11.trans h1_17).trans hb18).trans hb19)⟩
end Go.Proofs.YtdbnacjdinolcaaGreatDoor
