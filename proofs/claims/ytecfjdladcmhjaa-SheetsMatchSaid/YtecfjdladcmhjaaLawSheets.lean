/- The law on sheets, margins, and what is put in the middle. -/
import Derived.Test.YtecfjdladcmhjaaSheet4
import Derived.Test.YtecfjdladcmhjaaCentre4
import Derived.Test.YtecfjdladcmhjaaSkew4
import Derived.Deep.CutRange
import Derived.Deep.Light
namespace Go.Proofs.Ytecfjdladcmhjaa
open Go.RowKit

/-- skew.Centre, whatever comes. -/
theorem MidRes.bl {B : Nat} {w w' : World} {E : Int} {bs : List Bool} {W H u v : Nat} {a b : Int} {R : Option Addr} {m d : Nat} (h : MidRes B w E bs W H u v a b R m d) (hb : Bl w w') : MidRes B w' E bs W H u v a b R m d :=
  ⟨h.1, fun e => let ⟨X, Y, BW, BH, h1, h2⟩ := h.2 e; ⟨X, Y, BW, BH, h1, h2.bl hb⟩⟩
theorem centre_any (W H : Int) (A : Option Addr) (an ac : Nat) (bs : List Bool) (w' h' : Int) (w : World) (hA : Reads w 1 A an (bs.map .bool)) :
    Calls Try.prog 14 #[.agg #[.int .i64 W, .int .i64 H, .slice A an ac], .int .i64 w', .int .i64 h'] w fun e w2 => ∃ a b R m d, e = .returned (.tuple #[.agg #[.int .i64 a, .int .i64 b, .slice R m d], .int .i64 (centreErr W H an w' h' (inkB bs an))]) ∧
      MidRes w.heap.size w2 (centreErr W H an w' h' (inkB bs an)) bs W.toNat H.toNat w'.toNat h'.toNat a b R m d ∧ Bl w w2 := by
  by_cases he : centreErr W H an w' h' (inkB bs an) = 0
  · obtain ⟨hp, hs, hi⟩ := centreErr_zero he
    have hz := sizeErr_zero hs
    obtain ⟨W, H, rfl, rfl, rfl, u1, u2, u3⟩ := page_nat hp
    obtain ⟨w', rfl⟩ := Int.eq_ofNat_of_zero_le (show 0 ≤ w' by omega)
    obtain ⟨h', rfl⟩ := Int.eq_ofNat_of_zero_le (show 0 ≤ h' by omega)
    refine (centre_ok W H w' h' A ac bs w hA hp hs hi).mono ?_
    rintro e w2 ⟨v, rfl, ⟨X, Y, BW, BH, hb, R, c, rfl, hr, hn⟩, hbl⟩
    exact ⟨(w' : Int), (h' : Int), R, w' * h', c, by rw [he], ⟨fun h => absurd he h, fun _ => ⟨X, Y, BW, BH, hb, R, c, rfl, hr, hn⟩⟩, hbl⟩
  · refine (centre_bad W H A an ac bs w' h' w hA he).mono ?_
    rintro e w2 ⟨rfl, hbl⟩
    exact ⟨0, 0, none, 0, 0, rfl, MidRes.zero _ _ _ _ _ _ _ he, hbl⟩

set_option maxRecDepth 100000 in
set_option maxHeartbeats 40000000 in
theorem lawSheets_any (gW gH bW bH : Int) (G A : Option Addr) (gn gc an ac : Nat) (zs : List Int) (bs : List Bool) (level part w' h' : Int) (w : World) (hG : Reads w 1 G gn (zs.map (.int .u8))) (hz : Bytes zs) (hA : Reads w 1 A an (bs.map .bool)) :
    Calls Try.prog 3 #[.agg #[.int .i64 gW, .int .i64 gH, .slice G gn gc], .agg #[.int .i64 bW, .int .i64 bH, .slice A an ac], .int .i64 level, .int .i64 part, .int .i64 w', .int .i64 h'] w
      fun e w2 => e = .returned (.bool true) ∧ Bl w w2 := by
  let w4 := ((((w).alloc (.cells #[.int .i64 gW, .int .i64 gH, .slice G gn gc] 24)).alloc (.cells #[.int .i64 bW, .int .i64 bH, .slice A an ac] 27)).alloc (.cells #[.int .i64 w'] 3)).alloc (.cells #[.int .i64 h'] 3)
  have w4b : Bl w w4 := ((((Bl.refl w).alloc _).alloc _).alloc _).alloc _
  have w41 : Blk w4 (w.heap.size) 24 #[.int .i64 gW, .int .i64 gH, .slice G gn gc] := by
    have h0 := Blk.new (w) 24 #[.int .i64 gW, .int .i64 gH, .slice G gn gc]
    exact (((h0.alloc _).alloc _).alloc _)
  have w42 : Blk w4 (w.heap.size + 1) 27 #[.int .i64 bW, .int .i64 bH, .slice A an ac] := by
    have h0 := Blk.new ((w).alloc (.cells #[.int .i64 gW, .int .i64 gH, .slice G gn gc] 24)) 27 #[.int .i64 bW, .int .i64 bH, .slice A an ac]
    simp only [World.size_alloc] at h0
    exact ((h0.alloc _).alloc _)
  have w43 : Blk w4 (w.heap.size + 1 + 1) 3 #[.int .i64 w'] := by
    have h0 := Blk.new (((w).alloc (.cells #[.int .i64 gW, .int .i64 gH, .slice G gn gc] 24)).alloc (.cells #[.int .i64 bW, .int .i64 bH, .slice A an ac] 27)) 3 #[.int .i64 w']
    simp only [World.size_alloc] at h0
    exact (h0.alloc _)
  have w44 : Blk w4 (w.heap.size + 1 + 1 + 1) 3 #[.int .i64 h'] := by
    have h0 := Blk.new ((((w).alloc (.cells #[.int .i64 gW, .int .i64 gH, .slice G gn gc] 24)).alloc (.cells #[.int .i64 bW, .int .i64 bH, .slice A an ac] 27)).alloc (.cells #[.int .i64 w'] 3)) 3 #[.int .i64 h']
    simp only [World.size_alloc] at h0
    exact h0
  have HG := Lib.hid (hG.bl w4b); have HA := Lib.hid (hA.bl w4b); have Hz := Lib.hid hz
  clear hG hA hz
  have k1 := w41.all3
  go_enter Try.func3, Try.ntmps3
  go_wp2_with fail
  refine (sheet_any gW gH G gn gc zs level part _ HG.out Hz.out).mono ?_
  rintro e w5 ⟨oX, oY, oW, oH, oe, rfl, o1, o2, hb5⟩
  have hb6 : Bl w4 (w5.alloc (.cells #[.int .i64 oX, .int .i64 oY, .int .i64 oW, .int .i64 oH] 29)) := hb5.alloc _
  have bo := Blk.new w5 29 #[.int .i64 oX, .int .i64 oY, .int .i64 oW, .int .i64 oH]
  have O1 := Lib.hid o1; have O2 := Lib.hid o2
  clear o1 o2 k1
  go_upto_region 2 with fail
  generalize hw6 : w5.alloc (.cells #[.int .i64 oX, .int .i64 oY, .int .i64 oW, .int .i64 oH] 29) = w6 at hb6 bo ⊢
  clear hw6 hb5
  obtain ⟨E, hE⟩ : ∃ E, E = sheetErr gW gH gn level part := ⟨_, rfl⟩
  have hf : firstNZ [pageErr gW gH gn, whenI (!inB level 0 256 || !inB part 1 1000) 3] = E := hE.symm
  have HE := Lib.hid hE
  have Hf := Lib.hid hf
  clear hE hf
  go_cut [15] from 23 to 42 (fun s15 wc => s15 = .int .i64 E ∧ Bl w6 wc)
  case first =>
    have k1 := (w41.bl hb6).all3
    go_wp2_with fail
    refine (grayError_any _ _ _ _ _ _).mono ?_
    rintro e w7 ⟨rfl, hb7⟩
    have hf := Hf.out
    cases hl : inB level 0 256
    · rw [hl] at hf
      simp only [Bool.not_false, Bool.true_or] at hf
      go_wp2_with (first | (go_at_call 8; refine (in_any _ _ _ _).mono ?_; rintro e w' ⟨rfl, rfl⟩) | (go_at_call 7; refine (when_any _ _ _).mono ?_; rintro e w' ⟨rfl, rfl⟩) | (go_at_call 5; refine (first2_any _ _ _ _ (Blk.new _ _ _)).mono ?_; rintro e w' ⟨rfl, rfl⟩))
      go_meet
      case rel => exact ⟨rfl, hb7.alloc _⟩
    · rw [hl] at hf
      simp only [Bool.not_true, Bool.false_or] at hf
      go_wp2_with (first | (go_at_call 8; refine (in_any _ _ _ _).mono ?_; rintro e w' ⟨rfl, rfl⟩) | (go_at_call 7; refine (when_any _ _ _).mono ?_; rintro e w' ⟨rfl, rfl⟩) | (go_at_call 5; refine (first2_any _ _ _ _ (Blk.new _ _ _)).mono ?_; rintro e w' ⟨rfl, rfl⟩))
      go_meet
      case rel => exact ⟨rfl, hb7.alloc _⟩
  case rest =>
    obtain ⟨rfl, hcut⟩ := hcut
    rename World => w8
    have hb8 := hb6.trans hcut
    have bo8 := bo.bl hcut
    clear hcut hb6 bo
    go_upto_if 44 with fail
    have b9 := Blk.new w8 29 #[.int .i64 0, .int .i64 0, .int .i64 0, .int .i64 0]
    have hb89 : Bl w8 (w8.alloc (.cells #[.int .i64 0, .int .i64 0, .int .i64 0, .int .i64 0] 29)) := (Bl.refl _).alloc _
    generalize hw9 : w8.alloc (.cells #[.int .i64 0, .int .i64 0, .int .i64 0, .int .i64 0] 29) = w9 at b9 hb89 ⊢
    clear hw9
    go_cut [15] from 43 to 54 (fun s15 wc => (∃ pX pY pW pH : Int, Blk wc w8.heap.size 29 #[.int .i64 pX, .int .i64 pY, .int .i64 pW, .int .i64 pH] ∧ (oe = 0 → pX = oX ∧ pY = oY ∧ pW = oW ∧ pH = oH)) ∧ s15 = .int .i64 oe ∧ (oe ≠ 0 → oX = 0 ∧ oY = 0 ∧ oW = 0 ∧ oH = 0) ∧ Bl w8 wc)
    case first =>
      by_cases he : E = 0
      · have hq : (E == 0) = true := by simp [he]
        rw [hq]
        obtain ⟨hp, hl, hpt⟩ := sheetErr_zero (HE.out.symm.trans he)
        have hzz := sizeErr_zero (pageErr_zero hp).1
        have ho := O2.out (HE.out.symm.trans he)
        obtain ⟨W, H, rfl, rfl, rfl, u1, u2, u3⟩ := page_nat hp
        simp only [Int.toNat_natCast] at ho
        have hW : 1 ≤ W ∧ W ≤ 4000 := by go_light; omega
        have hH : 1 ≤ H ∧ H ≤ 4000 := by go_light; omega
        have cs := sheetOf_any W H G gc zs level part w9 (HG.out.bl (hb8.trans hb89)) Hz.out hW hH hpt
        have Cs := Lib.hid cs; have Ho := Lib.hid ho
        have k1 := (w41.bl (hb8.trans hb89)).all3
        clear he hp hl hzz ho cs
        go_wp2_with fail
        refine Cs.out.mono ?_
        rintro e w10 ⟨pX, pY, pW, pH, is, rfl, hsi, hb10⟩
        have hx : (oe = whenI (!is) 10) ∧ (pX = oX ∧ pY = oY ∧ pW = oW ∧ pH = oH) ∧ (oe ≠ 0 → oX = 0 ∧ oY = 0 ∧ oW = 0 ∧ oH = 0) := by
          rcases Ho.out with ⟨h1, h2⟩ | ⟨h1, h2⟩
          · obtain ⟨e0, e1, e2, e3, e4⟩ := SheetIs.same hsi h2
            refine ⟨by rw [e0, h1]; rfl, ⟨e1, e2, e3, e4⟩, fun _ => ?_⟩
            rcases h2 with ⟨_, _, z⟩ | ⟨z, _⟩
            · exact z
            · cases z
          · obtain ⟨e0, e1, e2, e3, e4⟩ := SheetIs.same hsi h2
            exact ⟨by rw [e0, h1]; rfl, ⟨e1, e2, e3, e4⟩, fun h => absurd h1 h⟩
        have Hx := Lib.hid hx
        have b10 := b9.bl hb10
        have k10 := b10.all4
        have hb8_10 := hb89.trans hb10
        have bset := (((b10.set_ 0 (.int .i64 pX)).set_ 1 (.int .i64 pY)).set_ 2 (.int .i64 pW)).set_ 3 (.int .i64 pH)
        have Bset := Lib.hid bset
        clear hsi hx bset k1
        go_wp2_with (go_at_call 7; refine (when_any _ _ _).mono ?_; rintro e w' ⟨rfl, rfl⟩)
        go_meet
        case rel => exact ⟨⟨pX, pY, pW, pH, by simpa using Bset.out, fun _ => Hx.out.2.1⟩, by rw [Hx.out.1], Hx.out.2.2, (((hb8_10.setCell (by simp) _).setCell (by simp) _).setCell (by simp) _).setCell (by simp) _⟩
      · have hq : (E == 0) = false := by simp [he]
        rw [hq]
        obtain ⟨e1, e2, e3, e4, e5⟩ := O1.out (fun h => he (HE.out.trans h))
        have e1' : E = oe := HE.out.trans e1.symm
        have Hx := Lib.hid (And.intro e1' (And.intro e2 (And.intro e3 (And.intro e4 e5))))
        have hne : oe ≠ 0 := fun h => he (e1'.trans h)
        have Hne := Lib.hid hne
        clear he e1 e2 e3 e4 e5 e1' hne
        go_wp2_with fail
        go_meet
        case rel => exact ⟨⟨0, 0, 0, 0, b9, fun h => absurd h Hne.out⟩, by rw [Hx.out.1], fun _ => Hx.out.2, hb89⟩
    case rest =>
      rename World => w11
      obtain ⟨⟨pX, pY, pW, pH, bp, hpx⟩, rfl, ho0, hcut⟩ := hcut
      have hb11 := hb8.trans hcut
      have bo11 := bo8.bl hcut
      have Hpx := Lib.hid hpx; have Ho0 := Lib.hid ho0
      clear hcut bo8 b9 hb89 hpx ho0 O1 O2 Hf HE
      go_upto_region 8 with fail
      go_cut [79] from 55 to 79 (fun s79 wc => s79 = .bool false ∧ Bl w11 wc)
      case first =>
        go_wp2_with fail
        refine (skews_any _).mono ?_
        rintro e w12 ⟨rfl, hb12⟩
        have ko := (bo11.bl hb12).all4
        have kp := (bp.bl hb12).all4
        by_cases he : oe = 0
        · have hq : (oe != 0) = false := by simp [he]
          have hq2 : (oe == 0) = true := by simp [he]
          obtain ⟨rfl, rfl, rfl, rfl⟩ := Hpx.out he
          clear he
          go_wp2_with fail
          go_meet
          case rel => exact ⟨rfl, hb12⟩
        · have hq : (oe != 0) = true := by simp [he]
          have hq2 : (oe == 0) = false := by simp [he]
          obtain ⟨rfl, rfl, rfl, rfl⟩ := Ho0.out he
          clear he
          go_wp2_with fail
          go_meet
          case rel => exact ⟨rfl, hb12⟩
      case rest =>
        rename World => w12
        obtain ⟨rfl, hcut⟩ := hcut
        have hb12 := hb11.trans hcut
        have bp12 := bp.bl hcut
        clear hcut bo11 bp Hpx Ho0
        have k12 := (w42.bl hb12).all3
        go_wp2_with fail
        refine (margins_any bW bH A an ac bs _ (HA.out.bl hb12)).mono ?_
        rintro e w13 ⟨mX, mY, mW, mH, me, m1, m2, m3, m4, rfl, q1, q2, q3, q4, hb13⟩
        have hb14 : Bl w4 (w13.alloc (.cells #[.int .i64 m1, .int .i64 m2, .int .i64 m3, .int .i64 m4] 41)) := (hb12.trans hb13).alloc _
        have bm := Blk.new w13 41 #[.int .i64 m1, .int .i64 m2, .int .i64 m3, .int .i64 m4]
        have bp14 := (bp12.bl hb13).alloc (.cells #[.int .i64 m1, .int .i64 m2, .int .i64 m3, .int .i64 m4] 41)
        have lne : w13.heap.size ≠ w8.heap.size := by have h1 := bp12.lt; have h2 := hb13.le; omega
        have Lne := Lib.hid lne
        clear lne
        have Q1 := Lib.hid q1; have Q2 := Lib.hid q2; have Q3 := Lib.hid q3; have Q4 := Lib.hid q4
        clear k12 q1 q2 q3 q4
        go_upto_region 11 with fail
        generalize hw14 : w13.alloc (.cells #[.int .i64 m1, .int .i64 m2, .int .i64 m3, .int .i64 m4] 41) = w14 at hb14 bm bp14 ⊢
        have k14 := (w42.bl hb14).all3
        clear hw14 hb13 bp12
        go_wp2_with fail
        refine (bitsError_any _ _ _ _ _ _).mono ?_
        rintro e w15 ⟨rfl, hb15⟩
        clear k14 w41
        have hc15 : Bl w4 w15 := hb14.trans hb15
        have bm15 := bm.bl hb15
        have bp15 := bp14.bl hb15
        have hle4 : w4.heap.size ≤ w8.heap.size := hb8.le
        have Hle4 := Lib.hid hle4
        clear hb15 bm bp14 hle4
        go_upto_if 88 with fail
        go_cut [19] from 87 to 96 (fun s19 wc => s19 = .int .i64 me ∧ (∃ pX pY pW pH : Int, Blk wc w8.heap.size 29 #[.int .i64 pX, .int .i64 pY, .int .i64 pW, .int .i64 pH] ∧ (me = 0 → pX = mX ∧ pY = mY ∧ pW = mW ∧ pH = mH)) ∧ Blk wc w13.heap.size 41 #[.int .i64 m1, .int .i64 m2, .int .i64 m3, .int .i64 m4] ∧ Bl w4 wc)
        case first =>
          by_cases hp : pageErr bW bH an = 0
          · have hq : (pageErr bW bH an == 0) = true := by simp [hp]
            obtain ⟨is, hbi, hie⟩ := Q2.out hp
            rw [hq]
            obtain ⟨W, H, rfl, rfl, rfl, u1, u2, u3⟩ := page_nat hp
            simp only [Int.toNat_natCast] at hbi
            have Hbi := Lib.hid hbi; have Hie := Lib.hid hie
            have k15 := (w42.bl hc15).all3
            clear hp hbi hie
            go_wp2_with fail
            refine (boundsOf_any W H A ac bs _ (HA.out.bl hc15) u1 u2).mono ?_
            rintro e w16 ⟨pX', pY', pW', pH', is', rfl, hbi', hb16⟩
            obtain ⟨rfl, rfl, rfl, rfl, rfl⟩ := Hbi.out.same hbi'
            have b16 := bp15.bl hb16
            have k16 := b16.all4
            have bset := (((b16.set_ 0 (.int .i64 mX)).set_ 1 (.int .i64 mY)).set_ 2 (.int .i64 mW)).set_ 3 (.int .i64 mH)
            have Bset := Lib.hid bset
            have bm16 := bm15.bl hb16
            have bmset := (((bm16.far (p := ⟨w8.heap.size, 0, none⟩) Lne.out (.int .i64 mX)).far (p := ⟨w8.heap.size, 1, none⟩) Lne.out (.int .i64 mY)).far (p := ⟨w8.heap.size, 2, none⟩) Lne.out (.int .i64 mW)).far (p := ⟨w8.heap.size, 3, none⟩) Lne.out (.int .i64 mH)
            have BMset := Lib.hid bmset
            have hc16 := hc15.trans hb16
            clear hbi' bset bmset k15 bm16
            go_wp2_with (go_at_call 7; refine (when_any _ _ _).mono ?_; rintro e w' ⟨rfl, rfl⟩)
            go_meet
            case rel => exact ⟨by rw [Hie.out], ⟨mX, mY, mW, mH, by simpa using Bset.out, fun _ => ⟨rfl, rfl, rfl, rfl⟩⟩, BMset.out, (((hc16.setCell Hle4.out _).setCell Hle4.out _).setCell Hle4.out _).setCell Hle4.out _⟩
          · have hq : (pageErr bW bH an == 0) = false := by simp [hp]
            have e1 := Q1.out hp
            rw [hq]
            have hx : me = 0 → False := fun h => hp (e1.symm.trans h)
            have Hx := Lib.hid hx; have E1 := Lib.hid e1
            clear hp e1 hx
            go_wp2_with fail
            go_meet
            case rel => exact ⟨by rw [E1.out], ⟨pX, pY, pW, pH, bp15, fun h => (Hx.out h).elim⟩, bm15, hc15⟩
        case rest =>
          rename World => w16
          obtain ⟨rfl, ⟨pX, pY, pW, pH, bp, hpx⟩, bm, hc16⟩ := hcut
          have Hpx := Lib.hid hpx
          clear hpx bm15 bp15 hc15 hb14
          go_upto_if 98 with fail
          have bn := Blk.new w16 41 #[.int .i64 0, .int .i64 0, .int .i64 0, .int .i64 0]
          have hb17 : Bl w16 (w16.alloc (.cells #[.int .i64 0, .int .i64 0, .int .i64 0, .int .i64 0] 41)) := (Bl.refl _).alloc _
          generalize hw17 : w16.alloc (.cells #[.int .i64 0, .int .i64 0, .int .i64 0, .int .i64 0] 41) = w17 at bn hb17 ⊢
          clear hw17
          have hle5 : w4.heap.size ≤ w16.heap.size := hc16.le
          go_cut [] from 97 to 119 (fun wd => Blk wd w16.heap.size 41 #[.int .i64 m1, .int .i64 m2, .int .i64 m3, .int .i64 m4] ∧ Bl w16 wd)
          case first =>
            by_cases he : me = 0
            · have hq : (me == 0) = true := by simp [he]
              obtain ⟨rfl, rfl, rfl, rfl⟩ := Hpx.out he
              obtain ⟨e1, e2, e3, e4⟩ := Q4.out he
              have hp : pageErr bW bH an = 0 := by
                by_cases hp : pageErr bW bH an = 0
                · exact hp
                · exact ((Q1.out hp).symm.trans he)
              obtain ⟨is, hbi, hie⟩ := Q2.out hp
              have hbd := hbi.bd
              rw [hq]
              obtain ⟨W, H, rfl, rfl, rfl, u1, u2, u3⟩ := page_nat hp
              simp only [Int.toNat_natCast] at hbd
              have bX : (0 ≤ pX ∧ pX ≤ 4000) ∧ (0 ≤ pY ∧ pY ≤ 4000) ∧ (0 ≤ pW ∧ pW ≤ 4000) ∧ (0 ≤ pH ∧ pH ≤ 4000) := by omega
              have k17 := (bp.bl hb17).all4
              have k18 := (w42.bl (hc16.trans hb17)).all3
              have kn := bn.all4
              have bset := (((bn.set_ 0 (.int .i64 pX)).set_ 1 (.int .i64 pY)).set_ 2 (.int .i64 ((W : Int) - pX - pW))).set_ 3 (.int .i64 ((H : Int) - pY - pH))
              have Bset := Lib.hid bset
              have He4 := Lib.hid (And.intro e1 (And.intro e2 (And.intro e3 e4)))
              clear hp hbi hbd he bset bm hie e1 e2 e3 e4
              go_wp2_with fail
              go_meet
              case rel => exact ⟨by have h := He4.out; rw [h.1, h.2.1, h.2.2.1, h.2.2.2]; simpa using Bset.out, (((hb17.setCell (by simp) _).setCell (by simp) _).setCell (by simp) _).setCell (by simp) _⟩
            · have hq : (me == 0) = false := by simp [he]
              obtain ⟨rfl, rfl, rfl, rfl⟩ := Q3.out he
              rw [hq]
              clear he
              go_wp2_with fail
              go_meet
              case rel => exact ⟨bn, hb17⟩
          case rest =>
            rename World => w18
            obtain ⟨bn, hb18⟩ := hcut
            have km := (bm.bl hb18).all4
            have kn := bn.all4
            have hc18 := hc16.trans hb18
            have k7 := (w42.bl hc18).all3
            have k10 := (w43.bl hc18).all1
            have k11 := (w44.bl hc18).all1
            obtain ⟨E, hE⟩ : ∃ E, E = centreErr bW bH an w' h' (inkB bs an) := ⟨_, rfl⟩
            have hf : firstNZ [pageErr bW bH an, sizeErr w' h', me] = E := by
              rw [hE]
              by_cases hp : pageErr bW bH an = 0
              · obtain ⟨is, hbi, hie⟩ := Q2.out hp
                obtain ⟨W, H, rfl, rfl, rfl, u1, u2, u3⟩ := page_nat hp
                simp only [Int.toNat_natCast] at hbi
                rw [hie, inkB_is hbi]
                rfl
              · unfold centreErr
                simp only [firstNZ, if_neg hp]
            have cc := fun w h => centre_any bW bH A an ac bs w' h' w h
            rw [← hE] at cc
            have Cc := Lib.hid cc; have HE := Lib.hid hE; have Hf := Lib.hid hf
            clear cc hE hf bp bm Hpx hb17 Q1 Q2 Q3 Q4
            go_wp2_with fail
            refine (Cc.out _ (HA.out.bl hc18)).mono ?_
            rintro e w19 ⟨a, b, R, m, d, rfl, hres, hb19⟩
            have hc20 : Bl w4 (w19.alloc (.cells #[.int .i64 a, .int .i64 b, .slice R m d] 27)) := (hc18.trans hb19).alloc _
            have bc := Blk.new w19 27 #[.int .i64 a, .int .i64 b, .slice R m d]
            have hres20 := hres.bl ((Bl.refl w19).alloc (.cells #[.int .i64 a, .int .i64 b, .slice R m d] 27))
            have Hres := Lib.hid hres20
            clear hres hres20 k7 k10 k11 km kn
            go_upto_region 22 with fail
            generalize hw20 : w19.alloc (.cells #[.int .i64 a, .int .i64 b, .slice R m d] 27) = w20 at hc20 bc Hres ⊢
            clear hw20 hb19 bn
            have k7 := (w42.bl hc20).all3
            have k10 := (w43.bl hc20).all1
            have k11 := (w44.bl hc20).all1
            have hf := Hf.out
            refine wp_region_flow [(true, 0), (true, 2), (true, 3), (true, 5), (false, 1), (false, 4), (false, 6), (false, 7), (true, 8)] (fun _ => false) (by kernel_rfl) (by kernel_rfl) (by kernel_rfl) (by kernel_rfl) ?_
            iterate 3
              apply Flow.calm2 _ _ rfl rfl
              · intro w' hb' K' hK'
                obtain ⟨hc', hf'⟩ := hb'.rule
                go_simp
                try go_ints
                exact hK'
              · intro K' hK'
                simp only [Act.put, List.setIfInBounds_toArray, List.set_cons_zero, List.set_cons_succ]
                exact hK'
            iterate 1
              apply Flow.mv _ rfl
              · intro K' hK'
                simp only [Act.put, Act.eval, List.setIfInBounds_toArray, List.set_cons_zero, List.set_cons_succ, arr_getD, List.getD_cons_zero, List.getD_cons_succ]
                exact hK'
            apply Flow.move rfl
            go_wp2_with fail
            refine (bitsError_any _ _ _ _ _ _).mono ?_
            rintro e w21 ⟨rfl, HB1⟩
            have hb21 : Bl w20 w21 := Bl.ofDrew HB1
            have k10' := (w43.bl (hc20.trans hb21)).all1
            have k11' := (w44.bl (hc20.trans hb21)).all1
            go_wp2_with fail
            refine ⟨fun _ => (by first | exact HB1 | exact Bl.refl _), ?_⟩
            apply Flow.move rfl
            go_wp2_with fail
            refine (sizeError_any _ _ _).mono ?_
            rintro e w22 ⟨rfl, HB2⟩
            go_wp2_with fail
            refine ⟨fun _ => (by first | exact HB2 | exact Bl.refl _), ?_⟩
            apply Flow.move rfl
            go_wp2_with fail
            first | refine ⟨fun _ => ?_, ?_⟩ | refine ⟨?_, ?_⟩
            · repeat' (first | exact Bl.refl _ | refine Bl.drewL ?_ | refine Bl.drew ?_ | refine Bl.alloc ?_ _)
            apply Flow.move rfl
            go_wp2_with fail
            refine (first3_any _ _ _ _ _ (Blk.new _ _ _)).mono ?_
            rintro e w' ⟨rfl, rfl⟩
            go_wp2_with fail
            refine ⟨fun _ => (by first | exact HB4 | exact Bl.refl _), ?_⟩
            iterate 1
              apply Flow.asg _ rfl
              · intro K' hK'
                simp only [Act.put, Act.eval, List.setIfInBounds_toArray, List.set_cons_zero, List.set_cons_succ, arr_getD, List.getD_cons_zero, List.getD_cons_succ]
                exact hK'
            refine Flow.done ?_
            have hc24 : Bl w4 (w22.alloc (.cells #[.int .i64 (pageErr bW bH an), .int .i64 (sizeErr w' h'), .int .i64 me] 30)) := ((hc20.trans hb21).trans HB2).alloc _
            have hb24 : Bl w20 (w22.alloc (.cells #[.int .i64 (pageErr bW bH an), .int .i64 (sizeErr w' h'), .int .i64 me] 30)) := (hb21.trans HB2).alloc _
            generalize hw24 : w22.alloc (.cells #[.int .i64 (pageErr bW bH an), .int .i64 (sizeErr w' h'), .int .i64 me] 30) = w24 at hc24 hb24 ⊢
            clear hw24 k7 k10 k11 k10' k11' hb21 HB1 HB2
            have kc := (bc.bl hb24).all3
            have k10 := (w43.bl hc24).all1
            have k11 := (w44.bl hc24).all1
            by_cases he : E = 0
            · have hq : (E == 0) = true := by simp [he]
              have He := Lib.hid he
              clear he hf
              cases hs : smallB w' h'
              · have Hs := Lib.hid hs; clear hs
                go_wp2_with (go_at_call 16; refine (small_any _ _ _).mono ?_; rintro e w' ⟨rfl, rfl⟩; rw [Hs.out])
                go_ret
                exact ⟨rfl, w4b.trans hc24⟩
              · have Hs := Lib.hid hs; clear hs
                obtain ⟨hp, hsz, hink⟩ := centreErr_zero (HE.out.symm.trans He.out)
                have hz := sizeErr_zero hsz
                obtain ⟨X, Y, BW, BH, hbi, hpg⟩ := Hres.out.2 He.out
                have hpg24 := hpg.is.bl hb24
                obtain ⟨W, H, rfl, rfl, rfl, u1, u2, u3⟩ := page_nat hp
                obtain ⟨w', rfl⟩ := Int.eq_ofNat_of_zero_le (show 0 ≤ w' by go_light; omega)
                obtain ⟨h', rfl⟩ := Int.eq_ofNat_of_zero_le (show 0 ≤ h' by go_light; omega)
                simp only [Int.toNat_natCast] at hbi hpg24
                have v1 : w' ≤ 4000 := by go_light; omega
                have v2 : h' ≤ 4000 := by go_light; omega
                have v3 : w' * h' ≤ 1099511627776 := by
                  have h1 := Nat.mul_le_mul v1 v2
                  omega
                have mk := sheets1_makes _ _ _ W H w' h' A ac bs X Y BW BH w24 (w42.bl hc24) (w43.bl hc24) (w44.bl hc24) (HA.out.bl hc24) u1 u2 v1 v2 hbi
                have Mk := Lib.hid mk; have Hpg := Lib.hid hpg24; have V3 := Lib.hid v3
                have he := He.out
                subst he
                clear hp hsz hink hz hbi hpg hpg24 mk v1 v2 v3 u1 u2 u3 HE Hf Cc
                go_wp2_with (go_at_call 16; refine (small_any _ _ _).mono ?_; rintro e w' ⟨rfl, rfl⟩; rw [Hs.out])
                refine (bitsIs_ok w' h' _ _ _ _ _ Hpg.out Mk.out V3.out).mono ?_
                rintro e w25 ⟨rfl, hb25⟩
                go_wp2_with fail
                go_ret
                exact ⟨rfl, (w4b.trans hc24).trans hb25⟩
            · have hq : (E == 0) = false := by simp [he]
              obtain ⟨rfl, rfl, rfl, rfl, rfl⟩ := Hres.out.1 he
              have He := Lib.hid he
              clear he hf
              go_wp2_with fail
              refine (bitsIs_bad _ _ _ He.out).mono ?_
              rintro e w25 ⟨rfl, hb25⟩
              go_wp2_with fail
              go_ret
              exact ⟨rfl, (w4b.trans hc24).trans hb25⟩

end Go.Proofs.Ytecfjdladcmhjaa
