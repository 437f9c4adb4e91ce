/- The law BarCodesMatch answers true. -/
import Derived.Test.YtkipcobpnecmhaaGreatDoorMClaimBarCodes38
import Derived.Test.YtkipcobpnecmhaaGreatDoorMClaimBarCodes29

namespace Go.Proofs.YtkipcobpnecmhaaGreatDoor
open Go.RowKit Go.Shelf

theorem runsErr_bad {pe H y : Int} (h : pe ≠ 0) : runsErr pe H y = pe := by
  show (if pe = 0 then _ else pe) = pe
  rw [if_neg h]
theorem findErr_bad {pe step : Int} (h : pe ≠ 0) : findErr pe step = pe := by
  show (if pe = 0 then _ else pe) = pe
  rw [if_neg h]
theorem first_bad {pe x : Int} (h : pe ≠ 0) : firstNZ [pe, x] = pe := by
  show (if pe = 0 then _ else pe) = pe
  rw [if_neg h]
set_option maxRecDepth 100000 in
set_option maxHeartbeats 8000000 in
theorem lawCodes_any (W H : Int) (A : Option Addr) (an ac : Nat) (bs : List Bool) (y step : Int) (w : World) (hA : Reads w 1 A an (bs.map .bool)) (hac : an ≤ ac) (hT : SpOk w) :
    Calls Tryz.prog 4 #[.agg #[.int .i64 W, .int .i64 H, .slice A an ac], .int .i64 y, .int .i64 step] w fun e w' => e = .returned (.bool true) ∧ Bl w w' := by
  let w2 := (w).alloc (.cells #[.int .i64 W, .int .i64 H, .slice A an ac] 28)
  have w2b : Bl w w2 := (Bl.refl w).alloc _
  have w21 : Blk w2 (w.heap.size) 28 #[.int .i64 W, .int .i64 H, .slice A an ac] := by
    have h0 := Blk.new (w) 28 #[.int .i64 W, .int .i64 H, .slice A an ac]
    exact h0
  have HA := Lib.hid (hA.bl w2b)
  have HT := Lib.hid (hT.bl w2b)
  have HW2 := Lib.hid w2b
  obtain ⟨PA, hPA⟩ : ∃ x, x = pageErr W H an := ⟨_, rfl⟩
  have Cpa := Lib.hid (fun wx => bitsError_any W H A an ac wx)
  have Crr := Lib.hid (fun wx (hx : Bl w2 wx) => readRow_any W H A an ac bs y wx (HA.out.bl hx) hac (HT.out.bl hx))
  have Cfi := Lib.hid (fun wx (hx : Bl w2 wx) => findC_any W H A an ac bs step wx (HA.out.bl hx) hac (HT.out.bl hx))
  unfold ReadRowRes at Crr
  unfold FindRes at Cfi
  simp only [← hPA] at Cpa Crr Cfi
  have HPA := Lib.hid hPA
  have k1 := w21.all3
  clear hA hT hPA
  go_enter Tryz.func4, Tryz.ntmps4
  go_upto_region 1 with fail
  change Code.wp _ _ _ _ w2
  clear_value w2
  go_wp2_with fail
  refine (Cpa.out _).mono ?_
  rintro e w3 ⟨rfl, hb3⟩
  clear k1
  have k1 := (w21.bl hb3).all3
  by_cases hz : PA = 0
  case neg =>
    have hq : (PA == 0) = false := by simp [hz]
    have hq2 : (PA != 0) = true := by simp [hz]
    have HR := Lib.hid (runsErr_bad (H := H) (y := y) hz)
    have HF := Lib.hid (findErr_bad (step := step) hz)
    have HX := Lib.hid (fun x => first_bad (x := x) hz)
    have HZ := Lib.hid hz
    clear hz
    go_wp2_with fail
    refine (Crr.out _ hb3).mono ?_
    rintro e w4 ⟨R, m, d, E1, rfl, hE1, hbad, -, hb4⟩
    obtain rfl : PA = E1 := by rw [hE1, HR.out]
    obtain ⟨rfl, rfl⟩ := hbad HZ.out
    have hb34 := hb3.trans hb4
    clear hbad hE1 k1 Crr
    have k1 := (w21.bl hb34).all3
    go_wp2_with fail
    refine (in_any _ _ _ _).mono ?_
    rintro e w' ⟨rfl, rfl⟩
    go_wp2_with fail
    refine (when_any _ _ _).mono ?_
    rintro e w' ⟨rfl, rfl⟩
    go_wp2_with fail
    refine (first2_any _ _ _ _ (Blk.new _ _ _)).mono ?_
    rintro e w' ⟨rfl, rfl⟩
    rw [HX.out]
    obtain ⟨w5, hw5⟩ : ∃ x, x = w4.alloc (.cells #[.int .i64 PA, .int .i64 (whenI (!inB y 0 (wrap64 (H - 1))) 13)] 23) := ⟨_, rfl⟩
    have hb45 : Bl w4 w5 := by rw [hw5]; exact (Bl.refl _).alloc _
    rw [← hw5]
    clear hw5
    have hb35 := hb34.trans hb45
    clear k1
    have k1 := (w21.bl hb35).all3
    go_wp2_with fail
    refine (bars_any _).mono ?_
    rintro e w6 ⟨rfl, hb6⟩
    have hb36 := hb35.trans hb6
    clear k1
    have k1 := (w21.bl hb36).all3
    go_wp2_with fail
    refine (Cfi.out _ hb36).mono ?_
    rintro e w7 hfi
    have hfi2 : e = .returned (.tuple #[.slice none 0 0, .int .i64 PA]) ∧ Bl w6 w7 := by
      rcases hfi with ⟨-, h, hb⟩ | ⟨h0, -⟩
      · exact ⟨by rw [h, HF.out], hb⟩
      · exact absurd (HF.out.symm.trans h0) HZ.out
    obtain ⟨rfl, hb7⟩ := hfi2
    clear hfi
    clear k1
    go_wp2_with fail
    refine (in_any _ _ _ _).mono ?_
    rintro e w' ⟨rfl, rfl⟩
    go_wp2_with fail
    refine (when_any _ _ _).mono ?_
    rintro e w' ⟨rfl, rfl⟩
    go_wp2_with fail
    refine (first2_any _ _ _ _ (Blk.new _ _ _)).mono ?_
    rintro e w' ⟨rfl, rfl⟩
    rw [HX.out]
    go_wp2_with fail
    go_ret
    exact ⟨by first | rfl | simp, HW2.out.trans ((hb36.trans hb7).alloc _)⟩
  case pos =>
    obtain ⟨Wn, Hn, rfl, rfl, rfl, hW4, hH4, hWH⟩ := page_nat (HPA.out.symm.trans hz)
    subst hz
    have hsz := sizeErr_zero (pageErr_zero HPA.out.symm).1
    by_cases hbig : 12 < Hn
    · have h1 : (12 : Int) < (Hn : Int) := by omega
      go_wp2_with fail
      refine (bars_any _).mono ?_
      rintro e w6 ⟨rfl, hb6⟩
      go_wp2_with fail
      go_ret
      exact ⟨rfl, HW2.out.trans (hb3.trans hb6)⟩
    · have h1 : ¬ (12 : Int) < (Hn : Int) := by omega
      by_cases hbig2 : 1500 < Wn
      · have h2 : (1500 : Int) < (Wn : Int) := by omega
        go_wp2_with fail
        refine (bars_any _).mono ?_
        rintro e w6 ⟨rfl, hb6⟩
        go_wp2_with fail
        go_ret
        exact ⟨rfl, HW2.out.trans (hb3.trans hb6)⟩
      · have h2 : ¬ (1500 : Int) < (Wn : Int) := by omega
        obtain ⟨E1, hE1⟩ : ∃ E, E = runsErr 0 (Hn : Int) y := ⟨_, rfl⟩
        have HE1 := Lib.hid (show firstNZ [0, whenI (!inB y 0 ((Hn : Int) - 1)) 13] = E1 from hE1.symm)
        obtain ⟨E2, hE2⟩ : ∃ E, E = findErr 0 step := ⟨_, rfl⟩
        have HE2 := Lib.hid (show firstNZ [0, whenI (!inB step 1 4000) 3] = E2 from hE2.symm)
        simp only [← hE1] at Crr
        simp only [← hE2] at Cfi
        have HRz := Lib.hid (fun (h : E1 = 0) => runs_zeroR (W := (Wn : Int)) (H := (Hn : Int)) (an := Wn * Hn) (y := y) (by rw [← HPA.out, ← hE1]; exact h))
        have HFz := Lib.hid (fun (h : E2 = 0) => find_zero (W := (Wn : Int)) (H := (Hn : Int)) (an := Wn * Hn) (step := step) (by rw [← HPA.out, ← hE2]; exact h))
        clear hE1 hE2
        go_wp2_with fail
        refine (Crr.out _ hb3).mono ?_
        rintro e w4 ⟨R, m, d, E1', rfl, rfl, hbad, hok, hb4⟩
        rename Int => E1
        have HBad := Lib.hid hbad; have HOk := Lib.hid hok
        have hb34 := hb3.trans hb4
        clear hbad hok k1 Crr
        have k1 := (w21.bl hb34).all3
        go_wp2_with fail
        refine (in_any _ _ _ _).mono ?_
        rintro e w' ⟨rfl, rfl⟩
        go_wp2_with fail
        refine (when_any _ _ _).mono ?_
        rintro e w' ⟨rfl, rfl⟩
        go_wp2_with fail
        refine (first2_any _ _ _ _ (Blk.new _ _ _)).mono ?_
        rintro e w' ⟨rfl, rfl⟩
        rw [HE1.out]
        obtain ⟨w5, hw5⟩ : ∃ x, x = w4.alloc (.cells #[.int .i64 0, .int .i64 (whenI (!inB y 0 ((Hn : Int) - 1)) 13)] 23) := ⟨_, rfl⟩
        have hb45 : Bl w4 w5 := by rw [hw5]; exact (Bl.refl _).alloc _
        rw [← hw5]
        clear hw5 k1
        have hb35 := hb34.trans hb45
        go_upto_region 6 with fail
        go_cut [71] from 44 to 71 (fun s71 wc => s71 = .bool false ∧ Bl w5 wc)
        case first =>
          have k1 := (w21.bl hb35).all3
          by_cases hz : E1 = 0
          · obtain ⟨Wm, Hm, yn, e1, e2, rfl, -, hWm, hHm, hym⟩ := HRz.out hz
            have e1' : Wn = Wm := by omega
            have e2' : Hn = Hm := by omega
            subst e1' e2'
            obtain ⟨hm, hr⟩ := HOk.out hz
            subst hz
            simp only [Int.toNat_natCast] at hm hr
            have hm2 : m = (rowAtY bs Wn yn).length := hm
            have hr2 : Reads w4 6 R m (cdCells (rowAtY bs Wn yn)) := hr
            have Crow := Lib.hid (fun wx (hx : Bl w2 wx) => show Calls Tryz.prog 20 #[.agg #[.int .i64 Wn, .int .i64 Hn, .slice A (Wn * Hn) ac], .int .i64 yn] wx (RowRes (rowAtY bs Wn yn) wx) from rowOf_any Wn Hn A ac bs yn wx (HA.out.bl hx) hW4 hH4 hym (HT.out.bl hx))
            obtain ⟨rs, hrs⟩ : ∃ rs, rs = rowAtY bs Wn yn := ⟨_, rfl⟩
            have hrl := rowAtY_len bs Wn yn
            rw [← hrs] at hm2 hr2 Crow hrl
            subst hm2
            have HRd := Lib.hid hr2
            unfold RowRes at Crow
            clear hm hr hr2 hrs e1 e2
            go_wp2_with fail
            refine (bars_any _).mono ?_
            rintro e w6 ⟨rfl, hb6⟩
            have hb36 := hb35.trans hb6
            clear k1
            have k1 := (w21.bl hb36).all3
            go_wp2_with fail
            refine (Crow.out _ hb36).mono ?_
            rintro e w7 ⟨R2, d2, rfl, hr7, hb7⟩
            have HEq := Lib.hid (equalCodes_any R R2 d d2 rs w7 (HRd.out.bl (hb45.trans (hb6.trans hb7))) hr7 (by omega))
            clear hr7
            go_wp2_with fail
            refine HEq.out.mono ?_
            rintro e w8 ⟨rfl, hb8⟩
            go_wp2_with fail
            go_meet
            case rel => exact ⟨by first | rfl | simp, (hb6.trans hb7).trans hb8⟩
          · obtain ⟨rfl, rfl⟩ := HBad.out hz
            have hq : (E1 == 0) = false := by simp [hz]
            have hq2 : (E1 != 0) = true := by simp [hz]
            clear hz
            go_wp2_with fail
            refine (bars_any _).mono ?_
            rintro e w6 ⟨rfl, hb6⟩
            go_wp2_with fail
            go_meet
            case rel => exact ⟨by first | rfl | simp, hb6⟩
        case rest =>
          obtain ⟨rfl, hbc⟩ := hcut
          rename World => w6
          have hb36 := hb35.trans hbc
          have k1 := (w21.bl hb36).all3
          clear HBad HOk HE1 HRz
          go_wp2_with fail
          refine (Cfi.out _ hb36).mono ?_
          rintro e w7 hfi
          clear Cfi
          by_cases hz : E2 = 0
          case neg =>
            have hfi2 : e = .returned (.tuple #[.slice none 0 0, .int .i64 E2]) ∧ Bl w6 w7 := by
              rcases hfi with ⟨-, h, hb⟩ | ⟨h0, -⟩
              · exact ⟨h, hb⟩
              · exact absurd h0 hz
            obtain ⟨rfl, hb7⟩ := hfi2
            have hq2 : (E2 != 0) = true := by simp [hz]
            clear hfi hz
            go_wp2_with fail
            refine (in_any _ _ _ _).mono ?_
            rintro e w' ⟨rfl, rfl⟩
            go_wp2_with fail
            refine (when_any _ _ _).mono ?_
            rintro e w' ⟨rfl, rfl⟩
            go_wp2_with fail
            refine (first2_any _ _ _ _ (Blk.new _ _ _)).mono ?_
            rintro e w' ⟨rfl, rfl⟩
            rw [HE2.out]
            go_wp2_with fail
            go_ret
            exact ⟨by first | rfl | simp, HW2.out.trans ((hb36.trans hb7).alloc _)⟩
          case pos =>
            obtain ⟨-, hs1, hs4⟩ := HFz.out hz
            obtain ⟨st, rfl⟩ : ∃ st : Nat, step = (st : Int) := ⟨step.toNat, by omega⟩
            have hv : VoteRes (codesTo bs Wn st (rowsN Hn st)) w6 e w7 := by
              rcases hfi with ⟨h0, -⟩ | ⟨-, h⟩
              · exact absurd hz h0
              · simp only [Int.toNat_natCast] at h; exact h
            clear hfi
            subst hz
            have hcl := codesTo_len bs Wn st (rowsN Hn st)
            have hJ : rowsN Hn st ≤ 12 := by
              rcases Nat.eq_zero_or_pos (rowsN Hn st) with h | h
              · omega
              · have := (rowsN_lt (H := Hn) (step := st) (by omega) (rowsN Hn st - 1)).2 (by omega)
                have h4 : (rowsN Hn st - 1) * 1 ≤ (rowsN Hn st - 1) * st := Nat.mul_le_mul_left _ (by omega)
                omega
            have hJW : rowsN Hn st * (Wn + 1) ≤ 12 * 1501 := Nat.mul_le_mul hJ (by omega)
            have Ccs := Lib.hid (fun wx (hx : Bl w2 wx) => codesOf_any Wn Hn st A ac bs wx (HA.out.bl hx) hW4 (by omega) (by omega) (by omega) (HT.out.bl hx))
            have hok := codesTo_ok (bs := bs) (W := Wn) (step := st) (H := Hn) hW4 hH4 (rowsN Hn st) (fun i hi => (rowsN_lt (by omega) i).2 hi)
            obtain ⟨cs, hcs⟩ : ∃ cs, cs = codesTo bs Wn st (rowsN Hn st) := ⟨_, rfl⟩
            rw [← hcs] at hv hcl Ccs hok
            have hve : voteErr cs = 0 := by
              rw [vote_good (fun c hc => (hok c hc).1), decide_eq_false (by omega)]
              rfl
            have HG := Lib.hid ((groupC_ok (cs := cs) (fun c hc => cdOk_of_err (hok c hc).1 (by have := (hok c hc).2; omega)) cs.length (Nat.le_refl _)).2)
            rw [List.take_length] at HG
            unfold CodesRes at Ccs
            obtain ⟨R3, c3, hin, rfl, hr3, hb7⟩ : ∃ R c h, e = .returned (.tuple #[.slice R (groupC cs).length c, .int .i64 0]) ∧ Reads w7 6 R (groupC cs).length (cdCells (sortedCd (groupC cs) h)) ∧ Bl w6 w7 := by
              rcases hv with ⟨h0, -⟩ | ⟨-, h⟩
              · exact absurd hve h0
              · exact h
            have HR3 := Lib.hid hr3
            have hcl2 : cs.length ≤ 10000 := by omega
            clear hv hr3 hve hok hJW hJ hcs
            have hb37 := hb36.trans hb7
            clear k1
            have k1 := (w21.bl hb37).all3
            go_wp2_with fail
            refine (in_any _ _ _ _).mono ?_
            rintro e w' ⟨rfl, rfl⟩
            go_wp2_with fail
            refine (when_any _ _ _).mono ?_
            rintro e w' ⟨rfl, rfl⟩
            go_wp2_with fail
            refine (first2_any _ _ _ _ (Blk.new _ _ _)).mono ?_
            rintro e w' ⟨rfl, rfl⟩
            rw [HE2.out]
            obtain ⟨w8, hw8⟩ : ∃ x, x = w7.alloc (.cells #[.int .i64 0, .int .i64 (whenI (!inB (st : Int) 1 4000) 3)] 23) := ⟨_, rfl⟩
            have hb78 : Bl w7 w8 := by rw [hw8]; exact (Bl.refl _).alloc _
            rw [← hw8]
            clear hw8 k1
            have hb38 := hb37.trans hb78
            have k1 := (w21.bl hb38).all3
            go_wp2_with fail
            refine (Ccs.out _ hb38).mono ?_
            rintro e w9 ⟨R4, c4, hin4, rfl, hr4, hb9⟩
            have hsl := sortedCd_len (groupC cs) hin
            have he := equalCodes_any R3 R4 c3 c4 (sortedCd (groupC cs) hin) w9 (by rw [hsl]; exact HR3.out.bl (hb78.trans hb9)) (by rw [hsl]; exact hr4) (by rw [hsl]; have := HG.out; omega)
            rw [hsl] at he
            have He := Lib.hid he
            clear he hr4 hsl
            go_wp2_with fail
            refine He.out.mono ?_
            rintro e w10 ⟨rfl, hb10⟩
            go_wp2_with fail
            go_ret
            exact ⟨by first | rfl | simp, HW2.out.trans (hb38.trans (hb9.trans hb10))⟩
end Go.Proofs.YtkipcobpnecmhaaGreatDoor
