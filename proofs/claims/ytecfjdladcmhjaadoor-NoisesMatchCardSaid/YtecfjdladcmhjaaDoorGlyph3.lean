/- glyph.Check is fontErr. -/
import Derived.Test.YtecfjdladcmhjaaDoorGlyph2
namespace Go.Proofs.YtecfjdladcmhjaaDoor
open Go.RowKit

set_option maxRecDepth 100000 in
set_option maxHeartbeats 4000000 in
theorem check_any (nm : List UInt8) (ht gap sp : Int) (L : Option Addr) (c : Nat) (ls : List Ltr) (w : World) (hL : LtrsAt w L ls) (hnm : nm.length ≤ 9223372036854775807) (hn : ls.length ≤ 9223372036854775807) :
    Calls Tryd.prog 72 #[.agg #[.string ⟨nm.toArray⟩, .int .i64 ht, .int .i64 gap, .int .i64 sp, .slice L ls.length c]] w fun e w' => e = .returned (.int .i64 (fontErr (nameB nm) ht gap sp ls)) ∧ Bl w w' := by
  let w1 := (w).alloc (.cells #[.string ⟨nm.toArray⟩, .int .i64 ht, .int .i64 gap, .int .i64 sp, .slice L ls.length c] 67)
  have w1b : Bl w w1 := (Bl.refl w).alloc _
  have w11 : Blk w1 (w.heap.size) 67 #[.string ⟨nm.toArray⟩, .int .i64 ht, .int .i64 gap, .int .i64 sp, .slice L ls.length c] := by
    have h0 := Blk.new (w) 67 #[.string ⟨nm.toArray⟩, .int .i64 ht, .int .i64 gap, .int .i64 sp, .slice L ls.length c]
    exact h0
  have HL := Lib.hid (hL.bl w1b)
  have hnm' := fun w => isName_any ⟨nm.toArray⟩ w (by rw [Lib.size_mk]; exact hnm)
  have HNm := Lib.hid hnm'
  have k1 := w11.all5
  have hmm := @run_makeMap Tryd.prog
  clear hL hnm'
  go_enter Tryd.func72, Tryd.ntmps72
  go_wp2_with fail
  refine (HNm.out _).mono ?_
  rintro e w2 ⟨rfl, hb2⟩
  have k2 := (w11.bl hb2).all5
  clear k1
  cases hN : nameB nm
  · have HE := Lib.hid (show fontErr (nameB nm) ht gap sp ls = 5 by unfold fontErr fontHead; rw [hN]; rfl)
    go_wp2_with fail
    go_ret
    exact ⟨by rw [← hN, HE.out]; rfl, w1b.trans hb2⟩
  · have HE := Lib.hid (show fontErr (nameB nm) ht gap sp ls = if fontHead true ht gap sp ls.length = 0 then ltrsErr ht [] ls else fontHead true ht gap sp ls.length by unfold fontErr; rw [hN])
    go_upto_region 3 with fail
    go_cut [12] from 13 to 40 (fun s12 wc => s12 = .bool (!rangeB ht gap sp) ∧ w2 = wc)
    case first =>
      by_cases c0 : ht < 1
      · have HR := Lib.hid (show (!rangeB ht gap sp) = true by unfold rangeB inB; simp; omega)
        go_wp2_with fail
        go_meet
        case rel => exact ⟨by rw [HR.out], rfl⟩
      · skip
        by_cases c1 : 64 < ht
        · have HR := Lib.hid (show (!rangeB ht gap sp) = true by unfold rangeB inB; simp; omega)
          go_wp2_with fail
          go_meet
          case rel => exact ⟨by rw [HR.out], rfl⟩
        · skip
          by_cases c2 : gap < 1
          · have HR := Lib.hid (show (!rangeB ht gap sp) = true by unfold rangeB inB; simp; omega)
            go_wp2_with fail
            go_meet
            case rel => exact ⟨by rw [HR.out], rfl⟩
          · skip
            by_cases c3 : 16 < gap
            · have HR := Lib.hid (show (!rangeB ht gap sp) = true by unfold rangeB inB; simp; omega)
              go_wp2_with fail
              go_meet
              case rel => exact ⟨by rw [HR.out], rfl⟩
            · skip
              by_cases c4 : sp < 1
              · have HR := Lib.hid (show (!rangeB ht gap sp) = true by unfold rangeB inB; simp; omega)
                go_wp2_with fail
                go_meet
                case rel => exact ⟨by rw [HR.out], rfl⟩
              · skip
                by_cases c5 : 64 < sp
                · have HR := Lib.hid (show (!rangeB ht gap sp) = true by unfold rangeB inB; simp; omega)
                  go_wp2_with fail
                  go_meet
                  case rel => exact ⟨by rw [HR.out], rfl⟩
                · have HR := Lib.hid (show (!rangeB ht gap sp) = false by unfold rangeB inB; simp; omega)
                  go_wp2_with fail
                  go_meet
                  case rel => exact ⟨by rw [HR.out], rfl⟩
    case rest =>
      obtain ⟨rfl, rfl⟩ := hcut
      cases hr : rangeB ht gap sp
      · have HF := Lib.hid (show fontErr (nameB nm) ht gap sp ls = 3 by rw [HE.out]; unfold fontHead; rw [hr]; rfl)
        go_wp2_with fail
        go_ret
        exact ⟨by rw [← hN, HF.out]; rfl, w1b.trans hb2⟩
      · by_cases c1 : sp ≤ gap
        · have HF := Lib.hid (show fontErr (nameB nm) ht gap sp ls = 7 by rw [HE.out]; unfold fontHead; rw [hr, decide_eq_true c1]; rfl)
          go_wp2_with fail
          go_ret
          exact ⟨by rw [← hN, HF.out]; rfl, w1b.trans hb2⟩
        · by_cases c2 : ls.length = 0
          · have HF := Lib.hid (show fontErr (nameB nm) ht gap sp ls = 9 by rw [HE.out]; unfold fontHead; rw [hr, decide_eq_false c1, decide_eq_true c2]; rfl)
            have q2 : ((ls.length : Int) == 0) = true := by rw [len0]; exact decide_eq_true c2
            clear c2
            go_wp2_with fail
            go_ret
            exact ⟨by rw [← hN, HF.out]; rfl, w1b.trans hb2⟩
          · by_cases c3 : 200 < (ls.length : Int)
            · have HF := Lib.hid (show fontErr (nameB nm) ht gap sp ls = 4 by rw [HE.out]; unfold fontHead; rw [hr, decide_eq_false c1, decide_eq_false c2, decide_eq_true (show 200 < ls.length by omega)]; rfl)
              have q2 : ((ls.length : Int) == 0) = false := by rw [len0]; exact decide_eq_false c2
              clear c2
              go_wp2_with fail
              go_ret
              exact ⟨by rw [← hN, HF.out]; rfl, w1b.trans hb2⟩
            · have HX := Lib.hid (show fontErr true ht gap sp ls = ltrsErr ht [] ls by
                rw [← hN, HE.out]; unfold fontHead; rw [hr, decide_eq_false c1, decide_eq_false c2, decide_eq_false (show ¬ 200 < ls.length by omega)]; rfl)
              have q2 : ((ls.length : Int) == 0) = false := by rw [len0]; exact decide_eq_false c2
              clear c2 HE
              have hM0 := MapAt.new w2
              have hb3 : Bl w1 (w2.alloc (.map #[] 0)) := hb2.alloc _
              have hmb : w1.heap.size ≤ w2.heap.size := hb2.le
              have k3 := (w11.bl hb3).all5
              go_wp2_with fail
              go_loopw [61] (fun u wr => ∃ i : Nat, i ≤ ls.length ∧ u = .int .i64 i ∧ Bl w1 wr ∧ MapAt wr w2.heap.size ((ls.take i).map Ltr.text) ∧ ltrsErr ht ((ls.take i).map Ltr.text) (ls.drop i) = ltrsErr ht [] ls) (fun u _ => ls.length - (RowKit.intOf u).toNat)
              case atStart => exact ⟨0, Nat.zero_le _, rfl, hb3, hM0, by simp⟩
              case round =>
                obtain ⟨i, hi, rfl, hbr, hMr, hrs⟩ := hrel
                by_cases hlt : i < ls.length
                · have hg : ls[i]? = some ls[i] := List.getElem?_eq_getElem hlt
                  obtain ⟨l, hl⟩ : ∃ l, l = ls[i] := ⟨_, rfl⟩
                  rw [← hl] at hg
                  obtain ⟨ad, rfl, j1, j2, j3, j4⟩ := (HL.out.bl hbr).at_ hg
                  obtain ⟨pv, hpv⟩ : ∃ x, x = (ls.take i).map Ltr.text := ⟨_, rfl⟩
                  have hfr := ltrsErr_from (ht := ht) hg
                  have hpv2 : (ls.take (i + 1)).map Ltr.text = pv ++ [l.text] := by rw [List.take_add_one, hg, hpv]; simp
                  rw [← hpv] at hMr hrs hfr
                  have hcl := checkLetter_any nm ht gap sp (some ad) ls.length c pv l
                  have HA := Lib.hid (HL.out.2 l (List.mem_of_getElem? hg))
                  have HRs := Lib.hid hrs; have HF := Lib.hid hfr; have HG := Lib.hid hg; have Hcl := Lib.hid hcl; have HPv := Lib.hid hpv2
                  clear hrs hfr hpv hpv2 hg hl hcl hM0
                  go_upto_region 15 with fail
                  obtain ⟨w5, hw5⟩ : ∃ x, x = wr.alloc (.cells #[.string ⟨l.text.toArray⟩, .int .i64 l.W, .int .i64 l.H, .slice l.A l.m l.c] 99) := ⟨_, rfl⟩
                  have b5 : Blk w5 wr.heap.size 99 #[.string ⟨l.text.toArray⟩, .int .i64 l.W, .int .i64 l.H, .slice l.A l.m l.c] := by rw [hw5]; exact Blk.new _ _ _
                  have hb5 : Bl w1 w5 := by rw [hw5]; exact hbr.alloc _
                  have hM5 : MapAt w5 w2.heap.size pv := by rw [hw5]; exact hMr.bl ((Bl.refl _).alloc _)
                  rw [← hw5]
                  have k5 := (w11.bl hb5).all5
                  have k6 := b5.all4
                  have hlk := hM5.lookup l.text
                  clear hw5 j1 j2 j3 j4 k2 k3 hMr
                  go_wp2_with fail
                  refine (Hcl.out _ (HA.out.1.bl hb5) HA.out.2).mono ?_
                  rintro e w6 ⟨rfl, hb6⟩
                  have hb16 := hb5.trans hb6
                  have k7 := (b5.bl hb6).all4
                  obtain ⟨w7, hup, hM7, hB7⟩ := (hM5.bl hb6).update l.text
                  have hb7 := hB7 w1 hb16 hmb
                  clear k6 k5 hlk hM5 hB7
                  by_cases hz : ltrErr ht pv l = 0
                  · have hq : (ltrErr ht pv l == 0) = true := by simp [hz]
                    have HY := Lib.hid (show ltrsErr ht ((ls.take (i + 1)).map Ltr.text) (ls.drop (i + 1)) = ltrsErr ht [] ls by rw [← HRs.out, HF.out, if_pos hz])
                    clear hz
                    go_wp2_with fail
                    exact ⟨⟨i + 1, hlt, by go_num, hb7, by rw [HPv.out]; exact hM7, HY.out⟩, by simp [RowKit.intOf]; omega⟩
                  · have hq : (ltrErr ht pv l == 0) = false := by simp [hz]
                    have HY := Lib.hid (show ltrsErr ht [] ls = ltrErr ht pv l by rw [← HRs.out, HF.out, if_neg hz])
                    clear hz
                    go_wp2_with fail
                    go_ret
                    exact ⟨by rw [hN, HX.out, HY.out]; rfl, w1b.trans hb16⟩
                · obtain rfl : i = ls.length := by omega
                  have HY := Lib.hid (show ltrsErr ht [] ls = 0 by rw [← hrs, List.drop_length]; rfl)
                  go_wp2_with fail
                  go_ret
                  exact ⟨by rw [hN, HX.out, HY.out]; rfl, w1b.trans hbr⟩

end Go.Proofs.YtecfjdladcmhjaaDoor
