/- The law BestsMatch answers true. -/
import Derived.Test.YtkipcobpnecmhabGreatDoorMClaimBests28
import Derived.Test.YtkipcobpnecmhabGreatDoorMClaimBests27

namespace Go.Proofs.YtkipcobpnecmhabGreatDoor
open Go.RowKit Go.Shelf

theorem firstNZ_two (a b : Int) : firstNZ [a, b] = if a = 0 then b else a := by
  by_cases ha : a = 0
  · rw [firstNZ_eq ha, if_pos ha]
    show (if b = 0 then 0 else b) = b
    split
    · rename_i h; rw [h]
    · rfl
  · rw [firstNZ_stop ha, if_neg ha]
set_option maxRecDepth 100000 in
set_option maxHeartbeats 8000000 in
theorem lawBest_any (L : Option Addr) (c : Nat) (l : List Frm) (bW bH : Int) (C : Option Addr) (n cc : Nat) (cs : List Bool) (w : World) (hL : FrmsAt w L l) (hl : l.length ≤ 9223372036854775807) (hS : ∀ f ∈ l, f.small 1048576) (hC : Reads w 1 C n (cs.map .bool)) (hN : NumOk w) (hCo : SplitOk w) :
    Calls Tryz.prog 3 #[.slice L l.length c, .agg #[.int .i64 bW, .int .i64 bH, .slice C n cc]] w fun e w' => e = .returned (.bool true) ∧ Bl w w' := by
  let w1 := (w).alloc (.cells #[.int .i64 bW, .int .i64 bH, .slice C n cc] 25)
  have w1b : Bl w w1 := (Bl.refl w).alloc _
  have w11 : Blk w1 (w.heap.size) 25 #[.int .i64 bW, .int .i64 bH, .slice C n cc] := by
    have h0 := Blk.new (w) 25 #[.int .i64 bW, .int .i64 bH, .slice C n cc]
    exact h0
  have hbest := best_any L c l bW bH C n cc cs w1 (hL.bl w1b) hl hS (hC.bl w1b) (hN.bl w1b) (hCo.bl w1b)
  obtain ⟨RN, hRN⟩ : ∃ r, r = bestsN bW bH n cs l := ⟨_, rfl⟩
  rw [← hRN] at hbest
  have herr : bestsErr bW bH n l ≠ 0 → RN = (0, 0, bestsErr bW bH n l) := fun h2 => by
    rw [hRN]; unfold bestsN; rw [if_neg h2]
  have HErr := Lib.hid herr; have HRN := Lib.hid hRN; have Hbest := Lib.hid hbest
  have Hfm := Lib.hid (fun wx hN hC => formed_any wx hN hC)
  have HL := Lib.hid (hL.bl w1b); have HN := Lib.hid (hN.bl w1b); have HCo := Lib.hid (hCo.bl w1b); have HC := Lib.hid (hC.bl w1b); have HS := Lib.hid hS
  have k1 := w11.all3
  have HW1b := Lib.hid w1b
  clear hL hN hCo hC hS w1b herr hRN hbest
  go_enter Tryz.func3, Tryz.ntmps3
  go_upto_region 1 with fail
  rw [show w.alloc (.cells #[.int .i64 bW, .int .i64 bH, .slice C n cc] 25) = w1 from rfl]
  clear_value w1
  go_wp2_with fail
  refine Hbest.out.mono ?_
  rintro e w2 ⟨rfl, hb2⟩
  obtain ⟨rn, rs, re⟩ := RN
  have Hb2 := Lib.hid hb2
  obtain ⟨e0, he0⟩ : ∃ e, e = whenI (decide (100 < l.length)) 4 := ⟨_, rfl⟩
  have He0 := Lib.hid (show whenI (decide (100 < (l.length : Int))) 4 = e0 by rw [he0, show decide (100 < (l.length : Int)) = decide (100 < l.length) from decide_eq_decide.2 (by omega)])
  have HBE := Lib.hid (show bestsErr bW bH n l = firstNZ [errTo e0 l l.length, pageErr bW bH n] by unfold bestsErr; rw [he0])
  clear hb2 k1 he0
  go_upto_region 3 with (go_at_call 6; refine (when_any _ _ _).mono ?_; rintro e w' ⟨rfl, rfl⟩)
  rw [He0.out]
  go_wp2_with fail
  go_loopw [8, 29] (fun x u wr => ∃ i : Nat, i ≤ l.length ∧ u = .int .i64 i ∧ x = .int .i64 (errTo e0 l i) ∧ Bl w1 wr ∧ Hid (errTo e0 l i = 0 → ∀ (j : Nat) f, j < i → l[j]? = some f → littleB f = true)) (fun _ u _ => l.length - (RowKit.intOf u).toNat)
  case atStart => exact ⟨0, Nat.zero_le _, rfl, rfl, Hb2.out, Lib.hid (fun _ j f hj => absurd hj (Nat.not_lt_zero _))⟩
  case round =>
    obtain ⟨i, hi, rfl, rfl, hbr, hlit⟩ := hrel
    by_cases hlt : i < l.length
    · have hg : l[i]? = some l[i] := List.getElem?_eq_getElem hlt
      obtain ⟨f, hf⟩ : ∃ x, x = l[i] := ⟨_, rfl⟩
      rw [← hf] at hg
      obtain ⟨ad, e1, j1, j2, j3, j4, j5, j6, j7, j8⟩ := (HL.out.bl hbr).at_ hg
      subst e1
      have HG := Lib.hid hg; have Hbr := Lib.hid hbr
      have HFf := Lib.hid (HL.out.2 f (List.mem_of_getElem? hg))
      have hck := fun wx hF hN hC => formError_any f wx hF (HS.out f (List.mem_of_getElem? hg)) hN hC
      unfold Frm.val at hck
      obtain ⟨FE, hFE⟩ : ∃ e, e = f.err := ⟨_, rfl⟩
      rw [← hFE] at hck
      obtain ⟨EI, hEI⟩ : ∃ e, e = errTo e0 l i := ⟨_, rfl⟩
      rw [← hEI] at hlit ⊢
      have hst : errTo e0 l (i + 1) = if EI = 0 then FE else EI := by rw [errTo_succ hg, ← hEI, hFE]
      obtain ⟨EJ, hEJ⟩ : ∃ e, e = errTo e0 l (i + 1) := ⟨_, rfl⟩
      have HF2 := Lib.hid (show firstNZ [EI, FE] = EJ by rw [firstNZ_two, hEJ, hst])
      have HEJ := Lib.hid hEJ
      have Hst := Lib.hid (show EJ = if EI = 0 then FE else EI by rw [hEJ, hst])
      have Hck := Lib.hid hck; have HFE := Lib.hid hFE
      clear hg hf hck hFE hst hEJ hEI
      go_upto_region 6 with fail
      obtain ⟨w5, hw5⟩ : ∃ x, x = wr.alloc (.cells #[.string ⟨f.name.toArray⟩, .int .i64 f.W, .int .i64 f.H, .int .i64 f.reach, .int .i64 f.dark, .slice f.AL f.la.length f.ac, .slice f.FL f.lf.length f.fc, .slice f.RL f.lr.length f.rc] 34) := ⟨_, rfl⟩
      have b5 : Blk w5 wr.heap.size 34 #[.string ⟨f.name.toArray⟩, .int .i64 f.W, .int .i64 f.H, .int .i64 f.reach, .int .i64 f.dark, .slice f.AL f.la.length f.ac, .slice f.FL f.lf.length f.fc, .slice f.RL f.lr.length f.rc] := by rw [hw5]; exact Blk.new _ _ _
      have hb5 : Bl wr w5 := by rw [hw5]; exact (Bl.refl _).alloc _
      rw [← hw5]
      have Hb5 := Lib.hid (hbr.trans hb5); have B5 := Lib.hid b5
      have k2 := b5.all8
      clear hw5 b5 hb5 hbr j1 j2 j3 j4 j5 j6 j7 j8
      go_wp2_with fail
      refine (Hck.out _ (HFf.out.bl Hb5.out) (HN.out.bl Hb5.out) (HCo.out.bl Hb5.out)).mono ?_
      rintro e w6 ⟨rfl, hb6⟩
      have Hb6 := Lib.hid (Hb5.out.trans hb6)
      have k2 := (B5.out.bl hb6).all8
      have k3 := ((B5.out.bl hb6).alloc (.cells #[.int .i64 EI, .int .i64 FE] 26)).all8
      have Hb7 := Lib.hid (Hb6.out.alloc (.cells #[.int .i64 EI, .int .i64 FE] 26))
      clear hb6
      go_upto_region 7 with (go_at_call 7; refine (first2_any _ _ _ _ (Blk.new _ _ _)).mono ?_; rintro e w' ⟨rfl, rfl⟩)
      rw [HF2.out]
      obtain ⟨w7, hw7⟩ : ∃ y, y = w6.alloc (.cells #[.int .i64 EI, .int .i64 FE] 26) := ⟨_, rfl⟩
      rw [← hw7] at k3 Hb7 ⊢
      clear hw7 k2
      by_cases hz : EJ = 0
      · have hq : (EJ == 0) = true := by simp [hz]
        have hEI0 : EI = 0 := by
          have := Hst.out
          rw [hz] at this
          by_cases h : EI = 0
          · exact h
          · rw [if_neg h] at this; exact absurd this.symm h
        have hf0 : f.err = 0 := by rw [← HFE.out]; have := Hst.out; rw [hz, if_pos hEI0] at this; exact this.symm
        obtain ⟨W', H', r, hfit⟩ := fits_of hf0
        have hlt2 := fun wx => little_any f W' H' r wx hfit
        obtain ⟨lb, hlb⟩ : ∃ b, b = littleB f := ⟨_, rfl⟩
        rw [← hlb] at hlt2
        unfold Frm.val at hlt2
        have Hlt2 := Lib.hid hlt2; have Hlb := Lib.hid hlb
        have HEI0 := Lib.hid hEI0
        clear hz hf0 hfit hlt2 hlb hEI0
        go_wp2_with fail
        refine (Hlt2.out _).mono ?_
        rintro e w8 ⟨rfl, hb8⟩
        have Hb8 := Lib.hid (Hb7.out.trans hb8)
        clear hb8 k3
        cases lb with
        | false =>
          go_wp2_with fail
          go_ret
          exact ⟨rfl, HW1b.out.trans Hb8.out⟩
        | true =>
          go_wp2_with fail
          exact ⟨⟨i + 1, hlt, by go_num, by rw [← HEJ.out], Hb8.out, Lib.hid (fun _ j f' hj hf' => by
            rcases Nat.lt_succ_iff_lt_or_eq.1 hj with h | rfl
            · exact hlit.out HEI0.out j f' h hf'
            · rw [HG.out] at hf'
              obtain rfl := Option.some.inj hf'
              exact Hlb.out.symm)⟩, by simp [RowKit.intOf]; omega⟩
      · have hq : (EJ == 0) = false := by simp [hz]
        have Hz := Lib.hid hz
        clear hz k3
        go_wp2_with fail
        exact ⟨⟨i + 1, hlt, by go_num, by rw [← HEJ.out], Hb7.out, Lib.hid (fun h => absurd (HEJ.out.trans h) Hz.out)⟩, by simp [RowKit.intOf]; omega⟩
    · obtain rfl : i = l.length := by omega
      have Hbr := Lib.hid hbr
      have k1 := (w11.bl hbr).all3
      obtain ⟨EI, hEI⟩ : ∃ e, e = errTo e0 l l.length := ⟨_, rfl⟩
      rw [← hEI] at hlit HBE ⊢
      have HEId := Lib.hid hEI
      obtain ⟨E, hE⟩ : ∃ e, e = bestsErr bW bH n l := ⟨_, rfl⟩
      rw [← hE] at HErr HBE
      have HEd := Lib.hid hE
      clear hbr hi hlt hEI hE
      go_wp2_with fail
      refine (bitsError_any _ _ _ _ _ _).mono ?_
      rintro e w3 ⟨rfl, hb3⟩
      have Hb3 := Lib.hid (Hbr.out.trans hb3)
      have Hb4 := Lib.hid ((Hbr.out.trans hb3).alloc (.cells #[.int .i64 EI, .int .i64 (pageErr bW bH n)] 26))
      clear hb3 k1
      go_upto_region 11 with (go_at_call 7; refine (first2_any _ _ _ _ (Blk.new _ _ _)).mono ?_; rintro e w' ⟨rfl, rfl⟩)
      rw [← HBE.out]
      obtain ⟨w4, hw4⟩ : ∃ y, y = w3.alloc (.cells #[.int .i64 EI, .int .i64 (pageErr bW bH n)] 26) := ⟨_, rfl⟩
      rw [← hw4] at Hb4 ⊢
      clear hw4
      by_cases hz : E = 0
      case neg =>
        have hq : (E == 0) = false := by simp [hz]
        have hq2 : (E != 0) = true := by simp [hz]
        have hR := HErr.out hz
        injection hR with r1 hR
        injection hR with r2 r3
        subst r1 r2 r3
        clear hz
        go_wp2_with (first | (go_at_call 6; refine (when_any _ _ _).mono ?_; rintro e w' ⟨rfl, rfl⟩) | (go_at_call 7; refine (first2_any _ _ _ _ (Blk.new _ _ _)).mono ?_; rintro e w' ⟨rfl, rfl⟩))
        refine (Hfm.out _ (HN.out.bl Hb4.out) (HCo.out.bl Hb4.out)).mono ?_
        rintro e wf ⟨rfl, hbf⟩
        have Hbf := Lib.hid ((Hb4.out).trans hbf)
        clear hbf
        go_wp2_with fail
        refine (Hfm.out _ (HN.out.bl Hbf.out) (HCo.out.bl Hbf.out)).mono ?_
        rintro e wg ⟨rfl, hbg⟩
        go_wp2_with fail
        go_ret
        exact ⟨by first | (simp; done) | (simp [whenI]; done), HW1b.out.trans (Hbf.out.trans hbg)⟩
      have hq : (E == 0) = true := by simp [hz]
      have hEI0 : EI = 0 := by
        have h := HBE.out
        rw [hz, firstNZ_two] at h
        by_cases h0 : EI = 0
        · exact h0
        · rw [if_neg h0] at h; exact absurd h.symm h0
      have hp : pageErr bW bH n = 0 := by
        have h := HBE.out
        rw [hz, firstNZ_two, if_pos hEI0] at h
        exact h.symm
      have Her := Lib.hid (show errTo e0 l l.length = 0 by rw [← HEId.out]; exact hEI0)
      have Hlit := Lib.hid (hlit.out hEI0)
      obtain ⟨SC, hSC⟩ : ∃ s : Frm → Int, s = fun f => scoreF f cs := ⟨_, rfl⟩
      have HSC := Lib.hid (show ∀ f, SC f = scoreF f cs from fun f => by rw [hSC])
      have HRB := Lib.hid (show (rn, rs, re) = if (bestTo bW bH SC l l.length).1 < 0 then (0, 0, 10) else ((bestTo bW bH SC l l.length).1, (bestTo bW bH SC l l.length).2, 0) by
        rw [HRN.out, hSC]; unfold bestsN
        rw [if_pos (show bestsErr bW bH n l = 0 by rw [← HEd.out, hz])])
      obtain ⟨W, H, q1, q2, q3, -, -, -⟩ := page_nat hp
      subst q1 q2 q3
      clear hSC hp hz hEI0 hlit
      go_wp2_with fail
      go_loopw [11, 12, 55] (fun x y u wr => ∃ i : Nat, i ≤ l.length ∧ u = .int .i64 i ∧ x = .int .i64 (bestTo W H SC l i).1 ∧ y = .int .i64 (bestTo W H SC l i).2 ∧ Bl w1 wr) (fun _ _ u _ => l.length - (RowKit.intOf u).toNat)
      case atStart => exact ⟨0, Nat.zero_le _, rfl, rfl, rfl, Hb4.out⟩
      case round =>
        rename World => wq
        obtain ⟨i, hi, rfl, rfl, rfl, hbr⟩ := hrel
        by_cases hlt : i < l.length
        · have hg : l[i]? = some l[i] := List.getElem?_eq_getElem hlt
          obtain ⟨f, hf⟩ : ∃ x, x = l[i] := ⟨_, rfl⟩
          rw [← hf] at hg
          obtain ⟨ad, e1, j1, j2, j3, j4, j5, j6, j7, j8⟩ := (HL.out.bl hbr).at_ hg
          subst e1
          have HG := Lib.hid hg
          have HFf := Lib.hid (HL.out.2 f (List.mem_of_getElem? hg))
          have hf0 := errTo_each Her.out hlt hg
          obtain ⟨W', H', r, hfit⟩ := fits_of hf0
          have Hfit := Lib.hid hfit
          have hr8 : r ≤ 8 := by
            have h := Hlit.out i f hlt hg
            unfold littleB at h
            rw [hfit.fr] at h
            simp only [Bool.and_eq_true, decide_eq_true_eq] at h
            omega
          obtain ⟨bi, hbi⟩ : ∃ b, b = (bestTo W H SC l i).1 := ⟨_, rfl⟩
          obtain ⟨li, hli⟩ : ∃ b, b = (bestTo W H SC l i).2 := ⟨_, rfl⟩
          have hbs := bestTo_succ (W := W) (H := H) (sc := SC) hg
          rw [← hbi, ← hli] at hbs
          rw [← hbi, ← hli]
          have Hbs := Lib.hid hbs; have Hbi := Lib.hid hbi; have Hli := Lib.hid hli
          clear hg hf hf0 hfit hbs hbi hli
          go_upto_region 16 with fail
          obtain ⟨w5, hw5⟩ : ∃ x, x = wq.alloc (.cells #[.string ⟨f.name.toArray⟩, .int .i64 f.W, .int .i64 f.H, .int .i64 f.reach, .int .i64 f.dark, .slice f.AL f.la.length f.ac, .slice f.FL f.lf.length f.fc, .slice f.RL f.lr.length f.rc] 34) := ⟨_, rfl⟩
          have b5 : Blk w5 wq.heap.size 34 #[.string ⟨f.name.toArray⟩, .int .i64 f.W, .int .i64 f.H, .int .i64 f.reach, .int .i64 f.dark, .slice f.AL f.la.length f.ac, .slice f.FL f.lf.length f.fc, .slice f.RL f.lr.length f.rc] := by rw [hw5]; exact Blk.new _ _ _
          have hb5 : Bl wq w5 := by rw [hw5]; exact (Bl.refl _).alloc _
          rw [← hw5]
          have Hb5 := Lib.hid (hbr.trans hb5); have B5 := Lib.hid b5
          have k1 := (w11.bl Hb5.out).all3
          have k2 := b5.all8
          clear hw5 b5 hb5 hbr j1 j2 j3 j4 j5 j6 j7 j8
          by_cases cW : f.W = (W : Int)
          case neg =>
            have q4 : (f.W != (W : Int)) = true := by simpa using cW
            have HX := Lib.hid (show bestTo W H SC l (i + 1) = bestTo W H SC l i by rw [Hbs.out, if_neg (fun h => cW h.1)])
            clear cW
            go_wp2_with fail
            exact ⟨⟨i + 1, hlt, by go_num, by rw [HX.out, ← Hbi.out], by rw [HX.out, ← Hli.out], Hb5.out⟩, by simp [RowKit.intOf]; omega⟩
          have q4 : (f.W != (W : Int)) = false := by simpa using cW
          have Hfw := Lib.hid cW
          by_cases cH : f.H = (H : Int)
          case neg =>
            have q5 : (f.H != (H : Int)) = true := by simpa using cH
            have HX := Lib.hid (show bestTo W H SC l (i + 1) = bestTo W H SC l i by rw [Hbs.out, if_neg (fun h => cH h.2.1)])
            clear cW cH
            go_wp2_with fail
            exact ⟨⟨i + 1, hlt, by go_num, by rw [HX.out, ← Hbi.out], by rw [HX.out, ← Hli.out], Hb5.out⟩, by simp [RowKit.intOf]; omega⟩
          have q5 : (f.H != (H : Int)) = false := by simpa using cH
          have Hfh := Lib.hid cH
          obtain rfl : W = W' := by have := Hfit.out.fW; omega
          obtain rfl : H = H' := by have := Hfit.out.fH; omega
          obtain ⟨sf, hsf⟩ : ∃ s, s = SC f := ⟨_, rfl⟩
          have Hsf := Lib.hid hsf.symm
          have hsc := scoreOf_any f C cc cs W H r w5 Hfit.out hr8 (HFf.out.bl Hb5.out) (HC.out.bl Hb5.out)
          rw [← HSC.out, ← hsf] at hsc
          unfold Frm.val at hsc
          have Hsc := Lib.hid hsc
          clear cW cH hsf hsc
          go_wp2_with fail
          refine Hsc.out.mono ?_
          rintro e w6 ⟨rfl, hb6⟩
          have Hb6 := Lib.hid (Hb5.out.trans hb6)
          clear hb6 k1 k2
          by_cases c1 : bi < 0
          · have HX := Lib.hid (show bestTo W H SC l (i + 1) = ((i : Int), sf) by rw [Hbs.out, if_pos ⟨Hfw.out, Hfh.out, .inl c1⟩, Hsf.out])
            go_wp2_with fail
            exact ⟨⟨i + 1, hlt, by go_num, by rw [HX.out], by rw [HX.out], Hb6.out⟩, by simp [RowKit.intOf]; omega⟩
          · by_cases c2 : sf < li
            · have HX := Lib.hid (show bestTo W H SC l (i + 1) = ((i : Int), sf) by rw [Hbs.out, if_pos ⟨Hfw.out, Hfh.out, .inr (by rw [Hsf.out]; exact c2)⟩, Hsf.out])
              go_wp2_with fail
              exact ⟨⟨i + 1, hlt, by go_num, by rw [HX.out], by rw [HX.out], Hb6.out⟩, by simp [RowKit.intOf]; omega⟩
            · have HX := Lib.hid (show bestTo W H SC l (i + 1) = bestTo W H SC l i by rw [Hbs.out, if_neg (fun h => by rcases h.2.2 with h | h; exact c1 h; rw [Hsf.out] at h; exact c2 h)])
              go_wp2_with fail
              exact ⟨⟨i + 1, hlt, by go_num, by rw [HX.out, ← Hbi.out], by rw [HX.out, ← Hli.out], Hb6.out⟩, by simp [RowKit.intOf]; omega⟩
        · obtain rfl : i = l.length := by omega
          obtain ⟨bi, hbi⟩ : ∃ b, b = (bestTo W H SC l l.length).1 := ⟨_, rfl⟩
          obtain ⟨li, hli⟩ : ∃ b, b = (bestTo W H SC l l.length).2 := ⟨_, rfl⟩
          have hRB := HRB.out
          rw [← hbi, ← hli] at hRB
          rw [← hbi, ← hli]
          have Hbz := Lib.hid hbr
          clear hbi hli hbr HRB
          by_cases c1 : bi < 0
          · rw [if_pos c1] at hRB
            injection hRB with r1 hR
            injection hR with r2 r3
            subst r1 r2 r3
            go_wp2_with (first | (go_at_call 6; refine (when_any _ _ _).mono ?_; rintro e w' ⟨rfl, rfl⟩) | (go_at_call 7; refine (first2_any _ _ _ _ (Blk.new _ _ _)).mono ?_; rintro e w' ⟨rfl, rfl⟩))
            refine (Hfm.out _ (HN.out.bl Hbz.out) (HCo.out.bl Hbz.out)).mono ?_
            rintro e wf ⟨rfl, hbf⟩
            have Hbf := Lib.hid ((Hbz.out).trans hbf)
            clear hbf
            go_wp2_with fail
            refine (Hfm.out _ (HN.out.bl Hbf.out) (HCo.out.bl Hbf.out)).mono ?_
            rintro e wg ⟨rfl, hbg⟩
            go_wp2_with fail
            go_ret
            exact ⟨by first | (simp; done) | (simp [whenI]; done), HW1b.out.trans (Hbf.out.trans hbg)⟩
          · rw [if_neg c1] at hRB
            injection hRB with r1 hR
            injection hR with r2 r3
            subst r1 r2 r3
            go_wp2_with (first | (go_at_call 6; refine (when_any _ _ _).mono ?_; rintro e w' ⟨rfl, rfl⟩) | (go_at_call 7; refine (first2_any _ _ _ _ (Blk.new _ _ _)).mono ?_; rintro e w' ⟨rfl, rfl⟩))
            refine (Hfm.out _ (HN.out.bl Hbz.out) (HCo.out.bl Hbz.out)).mono ?_
            rintro e wf ⟨rfl, hbf⟩
            go_wp2_with fail
            go_ret
            exact ⟨by simp, HW1b.out.trans (Hbz.out.trans hbf)⟩
end Go.Proofs.YtkipcobpnecmhabGreatDoor
