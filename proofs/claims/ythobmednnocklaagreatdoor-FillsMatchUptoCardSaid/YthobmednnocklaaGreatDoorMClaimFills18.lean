/- What bedref2.ruleError asks of a text: strings.ContainsFunc of what is no printable sign, slices.Contains of texts. -/
import Derived.Test.YthobmednnocklaaGreatDoorMClaimFills14
import Derived.Test.YthobmednnocklaaGreatDoorMClaimFills16
import Derived.Test.YthobmednnocklaaGreatDoorMClaimFills12
import Derived.Test.YthobmednnocklaaGreatDoorMClaimFills4
import Derived.Test.YthobmednnocklaaGreatDoorMClaimFills17
import Derived.Shelf.GgClosure.StringsIndexFuncTop
import Derived.Laws.RangeAny
import Derived.Ground.GgwProg

namespace Go.Proofs.YthobmednnocklaaGreatDoor
open Go.RowKit Go.Shelf

set_option maxRecDepth 100000 in
set_option maxHeartbeats 8000000 in
theorem valueErrorS_any (f : Frm) (L : Option Addr) (c : Nat) (l : List Vlu) (i : Nat) (v : Vlu) (w : World) (hF : FrmAt w f) (hL : VlusAt w L l) (hlc : l.length ≤ c) (hln : l.length ≤ 9223372036854775807) (hv : l[i]? = some v) :
 Calls Tryz.prog 75 #[f.val, .slice L l.length c, .int .i64 i, .bool true] w fun e w' => e = .returned (.int .i64 (vluErrS f.lf (decide (v.field ∈ (l.take i).map Vlu.field)) v)) ∧ Bl w w' := by
 obtain ⟨nm, fW, fH, reach, dark, AL, ac, la, FL, fc, lf, RL, rc, lr⟩ := f
 obtain ⟨tw, htw⟩ : ∃ b, b = decide (v.field ∈ (l.take i).map Vlu.field) := ⟨_, rfl⟩
 obtain ⟨VE, hVE⟩ : ∃ y, y = vluErrS lf tw v := ⟨_, rfl⟩
 show Calls _ _ _ w fun e w' => e = .returned (.int .i64 (vluErrS lf (decide (v.field ∈ (l.take i).map Vlu.field)) v)) ∧ Bl w w'
 rw [← htw, ← hVE]
 have HVE := Lib.hid hVE; have Htw := Lib.hid htw
 have hilt : i < l.length := (List.getElem?_eq_some_iff.1 hv).1
 obtain ⟨hV, hvf, hvt, hvl⟩ := hL.2 v (List.mem_of_getElem? hv)
 let w1 := (w).alloc (.cells #[.string ⟨nm.toArray⟩, .int .i64 fW, .int .i64 fH, .int .i64 reach, .int .i64 dark, .slice AL la.length ac, .slice FL lf.length fc, .slice RL lr.length rc] 75)
 have w1b : Bl w w1 := (Bl.refl w).alloc _
 have w11 : Blk w1 (w.heap.size) 75 #[.string ⟨nm.toArray⟩, .int .i64 fW, .int .i64 fH, .int .i64 reach, .int .i64 dark, .slice AL la.length ac, .slice FL lf.length fc, .slice RL lr.length rc] := by
  have h0 := Blk.new (w) 75 #[.string ⟨nm.toArray⟩, .int .i64 fW, .int .i64 fH, .int .i64 reach, .int .i64 dark, .slice AL la.length ac, .slice FL lf.length fc, .slice RL lr.length rc]
  exact h0
 have hfa := fun (n : List UInt8) wx (hF : FrmAt wx ⟨nm, fW, fH, reach, dark, AL, ac, la, FL, fc, lf, RL, rc, lr⟩) => fieldOf_any _ n wx hF
 unfold Frm.val at hfa
 have hL1 : VlusAt w1 L l := hL.bl w1b
 obtain ⟨ad, e1, j1, j2, j3, j4⟩ := hL1.at_ hv
 have HF := Lib.hid (hF.bl w1b); have Hfa := Lib.hid hfa; have HL := Lib.hid hL1; have HV := Lib.hid (hV.bl w1b)
 have k1 := w11.all8
 have hln2 : lf.length ≤ 9223372036854775807 := hF.fn.2
 have HW1b := Lib.hid w1b
 unfold Frm.val
 clear hF hL hV hVE hfa w1b hL1 hv htw
 subst e1
 go_enter Tryz.func75, Tryz.ntmps75
 go_upto_region 1 with fail
 rw [show w.alloc (.cells #[.string ⟨nm.toArray⟩, .int .i64 fW, .int .i64 fH, .int .i64 reach, .int .i64 dark, .slice AL la.length ac, .slice FL lf.length fc, .slice RL lr.length rc] 75) = w1 from rfl]
 clear_value w1
 go_upto_region 2 with fail
 obtain ⟨w2, hw2⟩ : ∃ y, y = w1.alloc (.cells #[.string ⟨v.field.toArray⟩, .string ⟨v.text.toArray⟩, .slice v.M v.marks.length v.mc, .int .i64 v.sure] 132) := ⟨_, rfl⟩
 have b2 : Blk w2 w1.heap.size 132 #[.string ⟨v.field.toArray⟩, .string ⟨v.text.toArray⟩, .slice v.M v.marks.length v.mc, .int .i64 v.sure] := by rw [hw2]; exact Blk.new _ _ _
 have hb2 : Bl w1 w2 := by rw [hw2]; exact (Bl.refl _).alloc _
 rw [← hw2]
 have k1 := (w11.bl hb2).all8
 have k2 := b2.all4
 have htwi := value_twice (some ad) c l i (by omega) w1.heap.size v w2 (HL.out.bl hb2) b2 hln
 rw [← Htw.out] at htwi
 have Htwi := Lib.hid htwi
 have B2 := Lib.hid b2; have Hb2 := Lib.hid hb2
 have hic : (i : Int) ≤ (c : Int) := by omega
 clear hw2 b2 hb2 htwi j1 j2 j3 j4
 go_wp2_with fail
 refine (Hfa.out v.field _ (HF.out.bl Hb2.out)).mono ?_
 rintro e w3 ⟨ix, rfl, hix, hb3⟩
 have Hb3 := Lib.hid hb3
 have k1 := (w11.bl (Hb2.out.trans hb3)).all8
 have k2 := (B2.out.bl hb3).all4
 have Hix := Lib.hid hix
 obtain ⟨E1, hE1⟩ : ∃ e, e = firstNZ [whenI (decide (ix < 0)) 10, whenI tw 6] := ⟨_, rfl⟩
 have HE1 := Lib.hid hE1
 clear hb3 hix hE1
 go_upto_region 3 with fail
 refine wp_region_flow [(true, 0), (true, 1), (true, 3), (true, 4), (true, 5), (true, 6), (false, 2), (false, 7), (false, 8), (false, 9), (false, 10), (true, 11)] (fun _ => false) (by kernel_rfl) (by kernel_rfl) (by kernel_rfl) (by kernel_rfl) ?_
 iterate 1
  apply Flow.mv _ rfl
  · intro K' hK'
    simp only [sqA, Act.eval, arr_getD, List.getD_cons_zero, List.getD_cons_succ]
    exact hK'
 iterate 1
  apply Flow.calm2 _ _ rfl rfl
  · intro w' hb' K' hK'
    obtain ⟨hc', hf'⟩ := hb'.rule
    go_simp
    try go_ints
    exact hK'
  · intro K' hK'
    simp only [sqA]
    exact hK'
 iterate 2
  apply Flow.mv _ rfl
  · intro K' hK'
    simp only [sqA, Act.eval, arr_getD, List.getD_cons_zero, List.getD_cons_succ]
    exact hK'
 iterate 2
  apply Flow.calm2 _ _ rfl rfl
  · intro w' hb' K' hK'
    obtain ⟨hc', hf'⟩ := hb'.rule
    go_simp
    try go_ints
    exact hK'
  · intro K' hK'
    simp only [sqA]
    exact hK'
 apply Flow.move rfl
 go_wp2_with fail
 refine (when_any _ _ _).mono ?_
 rintro e w' ⟨rfl, rfl⟩
 go_wp2_with fail
 refine ⟨fun _ => (by first | exact HB1 | exact Bl.refl _), ?_⟩
 apply Flow.move rfl
 go_wp2_with fail
 refine (Htwi.out _ Hb3.out.drew).mono ?_
 rintro e w4 ⟨rfl, HB2⟩
 have Hb4 := Lib.hid (Hb3.out.trans (Bl.ofDrew HB2))
 go_wp2_with fail
 refine ⟨fun _ => (by first | exact HB2 | exact Bl.refl _), ?_⟩
 apply Flow.move rfl
 go_wp2_with fail
 refine (when_any _ _ _).mono ?_
 rintro e w' ⟨rfl, rfl⟩
 go_wp2_with fail
 refine ⟨fun _ => (by first | exact HB3 | exact Bl.refl _), ?_⟩
 apply Flow.move rfl
 go_wp2_with fail
 first | refine ⟨fun _ => ?_, ?_⟩ | refine ⟨?_, ?_⟩
 · repeat' (first | exact Bl.refl _ | refine Bl.drewL ?_ | refine Bl.drew ?_ | refine Bl.alloc ?_ _)
 apply Flow.move rfl
 go_wp2_with fail
 refine (first2_any _ _ _ _ (Blk.new _ _ _)).mono ?_
 rintro e w' ⟨rfl, rfl⟩
 go_wp2_with fail
 refine ⟨fun _ => (by first | exact HB5 | exact Bl.refl _), ?_⟩
 iterate 1
  apply Flow.asg _ rfl
  · intro K' hK'
    simp only [sqA, Act.eval, arr_getD, List.getD_cons_zero, List.getD_cons_succ]
    exact hK'
 refine Flow.done ?_
 rw [← HE1.out]
 obtain ⟨w5, hw5⟩ : ∃ y, y = w4.alloc (.cells #[.int .i64 (whenI (decide (ix < 0)) 10), .int .i64 (whenI tw 6)] 31) := ⟨_, rfl⟩
 have hb5 : Bl w4 w5 := by rw [hw5]; exact (Bl.refl _).alloc _
 rw [← hw5]
 have Hb5 := Lib.hid (Hb4.out.trans hb5)
 have k1 := (w11.bl (Hb2.out.trans Hb5.out)).all8
 have k2 := (B2.out.bl Hb5.out).all4
 clear hw5 hb5 HB2
 rcases firstG_fld Hix.out with ⟨h0, hk⟩ | ⟨j, x, rfl, hl, hk⟩
 · have hE : E1 = 10 := by rw [HE1.out, decide_eq_true h0]; rfl
   have HX := Lib.hid (show VE = 10 by rw [HVE.out]; unfold vluErrS; rw [hk])
   subst hE
   clear hk h0
   go_wp2_with fail
   go_ret
   exact ⟨by rw [HX.out]; rfl, HW1b.out.trans (Hb2.out.trans Hb5.out)⟩
 have HVE1 := Lib.hid (show VE = firstNZ [whenI tw 6, whenI (wrongAllS x v) 2, rangeE x v.marks] by rw [HVE.out]; unfold vluErrS; rw [hk])
 have HLx := Lib.hid hl
 have hjl := (List.getElem?_eq_some_iff.1 hl).1
 have hxm : x.marks.length ≤ 9223372036854775807 := (HF.out.flds.2 x (List.mem_of_getElem? hl)).2.2.1
 have hE : E1 = whenI tw 6 := by rw [HE1.out, decide_eq_false (by omega), whenI_false, firstNZ_0, firstNZ_pair0]
 cases tw with
 | true =>
  have HX := Lib.hid (show VE = 6 by rw [HVE1.out]; rfl)
  obtain rfl : E1 = 6 := hE
  clear hl hk
  go_wp2_with fail
  go_ret
  exact ⟨by rw [HX.out]; rfl, HW1b.out.trans (Hb2.out.trans Hb5.out)⟩
 | false =>
 obtain rfl : E1 = 0 := hE
 have HVE2 := Lib.hid (show VE = firstNZ [whenI (wrongAllS x v) 2, rangeE x v.marks] by rw [HVE1.out, whenI_false, firstNZ_0])
 obtain ⟨adF, e1, j1, j2, j3, j4, j5, j6, j7, j8, j9⟩ := FldsAt.at_ (HF.out.flds.bl (Hb2.out.trans Hb5.out)) hl
 simp only at e1
 subst e1
 clear hl hk
 go_upto_region 7 with fail
 obtain ⟨w6, hw6⟩ : ∃ y, y = w5.alloc (.cells #[.string ⟨x.name.toArray⟩, .int .i64 x.kind, .int .i64 x.box.X, .int .i64 x.box.Y, .int .i64 x.box.W, .int .i64 x.box.H, .slice x.M x.marks.length x.mc, .int .i64 x.most, .bool x.needed] 136) := ⟨_, rfl⟩
 have b6 : Blk w6 w5.heap.size 136 #[.string ⟨x.name.toArray⟩, .int .i64 x.kind, .int .i64 x.box.X, .int .i64 x.box.Y, .int .i64 x.box.W, .int .i64 x.box.H, .slice x.M x.marks.length x.mc, .int .i64 x.most, .bool x.needed] := by rw [hw6]; exact Blk.new _ _ _
 have hb6 : Bl w5 w6 := by rw [hw6]; exact (Bl.refl _).alloc _
 rw [← hw6]
 have B6 := Lib.hid b6; have Hb6 := Lib.hid (Hb5.out.trans hb6); have BV := Lib.hid (B2.out.bl (Hb5.out.trans hb6))
 have k2 := BV.out.all4
 have k3 := b6.all9
 have k1 := (w11.bl (Hb2.out.trans Hb6.out)).all8
 obtain ⟨mk, hmk⟩ : ∃ b, b = marksB x.kind := ⟨_, rfl⟩
 obtain ⟨te, hte⟩ : ∃ b, b = v.text.isEmpty := ⟨_, rfl⟩
 have Hmk := Lib.hid hmk.symm; have Hte := Lib.hid hte.symm
 have hte2 := hte.symm
 have hmr := fun wx => marksR_any x.kind wx
 rw [← hmk] at hmr
 have Hmr := Lib.hid hmr
 have HV6 := Lib.hid (HV.out.bl (Hb2.out.trans Hb6.out))
 clear hw6 b6 hb6 j1 j2 j3 j4 j5 j6 j7 j8 j9 hmr hmk hte
 go_cut [13] from 45 to 84 (fun s wc => s = .bool (wrongW x v) ∧ w6 = wc)
 case first =>
  by_cases c0 : v.sure ≠ 0
  · have q0 : (v.sure != 0) = true := by simp [c0]
    have HX := Lib.hid (show wrongW x v = true by unfold wrongW; simp [c0])
    clear c0
    go_wp2_with fail
    go_meet
    case rel => exact ⟨by rw [HX.out], rfl⟩
  have Hc0 := Lib.hid (Classical.not_not.1 c0)
  have q0 : (v.sure != 0) = false := by rw [Hc0.out]; rfl
  clear c0
  cases mk with
  | true =>
   cases te with
   | false =>
    have HX := Lib.hid (show wrongW x v = true by unfold wrongW wrongV; rw [Hmk.out, Hte.out]; simp [*, Hc0.out])
    try clear c3
    go_wp2_with (go_at_call 79; refine (Hmr.out _).mono ?_; rintro e w' ⟨rfl, rfl⟩)
    go_meet
    case rel => exact ⟨by rw [HX.out] <;> first | rfl | exact congrArg Value.bool (decide_eq_false (by omega)) | exact congrArg Value.bool (decide_eq_true (by omega)), rfl⟩
   | true =>
    by_cases c3 : x.kind = 3
    · have q3 : (x.kind == 3) = true := by simpa using c3
      by_cases cl : 1 < v.marks.length
      · have cli : 1 < (v.marks.length : Int) := by omega
        have HX := Lib.hid (show wrongW x v = true by unfold wrongW wrongV; rw [Hmk.out, Hte.out]; simp [*, Hc0.out])
        try clear c3
        go_wp2_with (go_at_call 79; refine (Hmr.out _).mono ?_; rintro e w' ⟨rfl, rfl⟩)
        go_meet
        case rel => exact ⟨by rw [HX.out] <;> first | rfl | exact congrArg Value.bool (decide_eq_false (by omega)) | exact congrArg Value.bool (decide_eq_true (by omega)), rfl⟩
      · have cli : ¬ 1 < (v.marks.length : Int) := by omega
        have HX := Lib.hid (show wrongW x v = false by unfold wrongW wrongV; rw [Hmk.out, Hte.out]; simp [*, Hc0.out])
        try clear c3
        go_wp2_with (go_at_call 79; refine (Hmr.out _).mono ?_; rintro e w' ⟨rfl, rfl⟩)
        go_meet
        case rel => exact ⟨by rw [HX.out] <;> first | rfl | exact congrArg Value.bool (decide_eq_false (by omega)) | exact congrArg Value.bool (decide_eq_true (by omega)), rfl⟩
    · have q3 : (x.kind == 3) = false := by simpa using c3
      have HX := Lib.hid (show wrongW x v = false by unfold wrongW wrongV; rw [Hmk.out, Hte.out]; simp [*, Hc0.out])
      try clear c3
      go_wp2_with (go_at_call 79; refine (Hmr.out _).mono ?_; rintro e w' ⟨rfl, rfl⟩)
      go_meet
      case rel => exact ⟨by rw [HX.out] <;> first | rfl | exact congrArg Value.bool (decide_eq_false (by omega)) | exact congrArg Value.bool (decide_eq_true (by omega)), rfl⟩
  | false =>
   by_cases cl : 0 < v.marks.length
   · have cli : 0 < (v.marks.length : Int) := by omega
     have HX := Lib.hid (show wrongW x v = true by unfold wrongW wrongV; rw [Hmk.out, Hte.out]; simp [*, Hc0.out])
     try clear c3
     go_wp2_with (go_at_call 79; refine (Hmr.out _).mono ?_; rintro e w' ⟨rfl, rfl⟩)
     go_meet
     case rel => exact ⟨by rw [HX.out] <;> first | rfl | exact congrArg Value.bool (decide_eq_false (by omega)) | exact congrArg Value.bool (decide_eq_true (by omega)), rfl⟩
   · have cli : ¬ 0 < (v.marks.length : Int) := by omega
     have q3 : (x.kind == 3) = false := by
      have h := Hmk.out
      unfold marksB at h
      simp at h
      simpa using h.1
     have c3 : ¬ x.kind = 3 := by simpa using q3
     have cl1 : ¬ 1 < v.marks.length := by omega
     have HX := Lib.hid (show wrongW x v = false by unfold wrongW wrongV; rw [Hmk.out, Hte.out]; simp [*, Hc0.out])
     try clear c3
     go_wp2_with (go_at_call 79; refine (Hmr.out _).mono ?_; rintro e w' ⟨rfl, rfl⟩)
     go_meet
     case rel => exact ⟨by rw [HX.out] <;> first | rfl | exact congrArg Value.bool (decide_eq_false (by omega)) | exact congrArg Value.bool (decide_eq_true (by omega)), rfl⟩
 case rest =>
 rename World => wz
 obtain ⟨rfl, rfl⟩ := hcut
 obtain ⟨wv, hwv⟩ : ∃ b, b = wrongW x v := ⟨_, rfl⟩
 rw [← hwv]
 have Hwv := Lib.hid hwv
 clear hwv
 go_wp2_with fail
 go_loopw [13, 14] (fun b u wr => ∃ j : Nat, 1 ≤ j ∧ Hid (j ≤ max 1 v.marks.length) ∧ u = .int .i64 j ∧ b = .bool (wrongTo wv v.marks j) ∧ Bl w6 wr) (fun _ u _ => v.marks.length - (RowKit.intOf u).toNat)
 case atStart => exact ⟨1, Nat.le_refl _, Lib.hid (Nat.le_max_left _ _), rfl, by rw [wrongTo_one], Bl.refl _⟩
 case round =>
  clear k1 k2 k3
  rename World => wr
  obtain ⟨j, hj1, hj2, rfl, rfl, hbr⟩ := hrel
  have k2 := (BV.out.bl hbr).all4
  by_cases hlt : j < v.marks.length
  · have hst := wrongTo_succ wv v.marks hj1
    obtain ⟨wj, hwj⟩ : ∃ b, b = wrongTo wv v.marks j := ⟨_, rfl⟩
    rw [← hwj] at hst ⊢
    cases wj with
    | true =>
     have HX := Lib.hid (show wrongTo wv v.marks (j + 1) = true by rw [hst]; rfl)
     have Hbr := Lib.hid hbr
     clear hst hwj hbr
     go_upto_region 11 with fail
     refine wp_region_flow [(true, 0), (true, 1), (true, 2), (true, 3), (true, 4), (true, 5), (true, 6), (true, 7), (true, 8), (true, 9), (true, 10), (true, 11), (true, 12), (true, 13), (true, 14), (true, 15)] (fun _ => false) (by kernel_rfl) (by kernel_rfl) (by kernel_rfl) (by kernel_rfl) ?_
     iterate 2
      apply Flow.mv _ rfl
      · intro K' hK'
        simp only [sqA, Act.eval, arr_getD, List.getD_cons_zero, List.getD_cons_succ]
        exact hK'
     iterate 12
      first
       | (apply Flow.pass rfl (by rfl))
       | (apply Flow.calmG _ rfl (by rfl)
          · intro w' hb'
            obtain ⟨hc', hf'⟩ := hb'.rule
            go_simp
            all_goals (try rfl))
      simp only [sqA]
      try go_ints
     iterate 1
      apply Flow.calm2 _ _ rfl rfl
      · intro w' hb' K' hK'
        obtain ⟨hc', hf'⟩ := hb'.rule
        go_simp
        try go_ints
        exact hK'
      · intro K' hK'
        simp only [sqA]
        exact hK'
     iterate 1
      apply Flow.asg _ rfl
      · intro K' hK'
        simp only [sqA, Act.eval, arr_getD, List.getD_cons_zero, List.getD_cons_succ]
        exact hK'
     refine Flow.done ?_
     go_wp2_with fail
     exact ⟨⟨j + 1, by omega, Lib.hid (by omega), by go_num, by rw [HX.out], Hbr.out.drew⟩, by simp [RowKit.intOf]; omega⟩
    | false =>
     obtain ⟨ad, u1, eA, hu, hc1⟩ := (HV6.out.bl hbr).at_ hlt
     obtain ⟨ad', u2, eA', hu', hc2⟩ := (HV6.out.bl hbr).at_ (show j - 1 < v.marks.length by omega)
     rw [eA] at eA'
     obtain rfl := Option.some.inj eA'
     have hu1 : u1 = .int .i64 (v.marks.getD j 0) := by
      simp only [List.getElem?_map, Option.map_eq_some_iff] at hu
      obtain ⟨b, hb1, hb2⟩ := hu
      rw [← hb2, List.getD, hb1]; rfl
     have hu2 : u2 = .int .i64 (v.marks.getD (j - 1) 0) := by
      simp only [List.getElem?_map, Option.map_eq_some_iff] at hu'
      obtain ⟨b, hb1, hb2⟩ := hu'
      rw [← hb2, List.getD, hb1]; rfl
     clear hu hu'
     subst hu1 hu2
     obtain ⟨p1, hp1⟩ : ∃ z, z = v.marks.getD j 0 := ⟨_, rfl⟩
     obtain ⟨p2, hp2⟩ : ∃ z, z = v.marks.getD (j - 1) 0 := ⟨_, rfl⟩
     rw [← hp1, ← hp2, Bool.false_or] at hst
     rw [← hp1] at hc1
     rw [← hp2] at hc2
     have ej : ((j : Int) - 1) = ((j - 1 : Nat) : Int) := by omega
     have Hst := Lib.hid hst; have Hbr := Lib.hid hbr
     obtain ⟨jm, hjm⟩ : ∃ z, z = j - 1 := ⟨_, rfl⟩
     rw [← hjm] at hc2 ej
     have hjl : (jm : Int) < (v.marks.length : Int) := by omega
     rw [eA] at k2
     clear hp1 hp2 hst hbr hwj eA hjm
     go_upto_region 11 with fail
     refine wp_region_flow [(true, 0), (true, 1), (true, 2), (true, 3), (true, 4), (true, 5), (true, 6), (true, 7), (true, 8), (true, 9), (true, 10), (true, 11), (true, 12), (true, 13), (true, 14), (true, 15)] (fun _ => false) (by kernel_rfl) (by kernel_rfl) (by kernel_rfl) (by kernel_rfl) ?_
     iterate 2
      apply Flow.mv _ rfl
      · intro K' hK'
        simp only [sqA, Act.eval, arr_getD, List.getD_cons_zero, List.getD_cons_succ]
        exact hK'
     iterate 12
      first
       | (apply Flow.pass rfl (by rfl))
       | (apply Flow.calmG _ rfl (by rfl)
          · intro w' hb'
            obtain ⟨hc', hf'⟩ := hb'.rule
            go_simp
            all_goals (try rfl))
      simp only [sqA]
      try go_ints
     iterate 1
      apply Flow.calm2 _ _ rfl rfl
      · intro w' hb' K' hK'
        obtain ⟨hc', hf'⟩ := hb'.rule
        go_simp
        try go_ints
        exact hK'
      · intro K' hK'
        simp only [sqA]
        exact hK'
     iterate 1
      apply Flow.asg _ rfl
      · intro K' hK'
        simp only [sqA, Act.eval, arr_getD, List.getD_cons_zero, List.getD_cons_succ]
        exact hK'
     refine Flow.done ?_
     go_wp2_with fail
     exact ⟨⟨j + 1, by omega, Lib.hid (by omega), by go_num, by rw [Hst.out], Hbr.out.drew⟩, by simp [RowKit.intOf]; omega⟩
  · have hje : j = max 1 v.marks.length := by have := hj2.out; omega
    obtain ⟨wj, hwj⟩ : ∃ b, b = wrongTo wv v.marks j := ⟨_, rfl⟩
    rw [← hwj]
    have HVE3 := Lib.hid (show VE = rangeTo (whenI wj 2) x v.marks by rw [HVE2.out, hwj, Hwv.out, hje]; rfl)
    have Hr0 := Lib.hid (show whenI wj 2 = rangeTo (whenI wj 2) x (v.marks.take 0) by
     unfold rangeTo rangeE
     simp only [List.take_zero, List.any_nil, whenI_false]
     rw [firstNZ_pair]
     split
     · rename_i h; exact h
     · rfl)
    have Hbr := Lib.hid hbr
    have k3 := (B6.out.bl hbr).all9
    obtain ⟨e0, he0⟩ : ∃ e, e = whenI wj 2 := ⟨_, rfl⟩
    rw [← he0] at HVE3 Hr0
    have He0 := Lib.hid he0
    clear hje hwj hbr he0 hj2
    go_upto_region 13 with (go_at_call 10; refine (when_any _ _ _).mono ?_; rintro e w' ⟨rfl, rfl⟩)
    rw [← He0.out]
    go_wp2_with fail
    go_loopw [15, 111] (fun p u wy => ∃ i : Nat, i ≤ v.marks.length ∧ u = .int .i64 i ∧ p = .int .i64 (rangeTo e0 x (v.marks.take i)) ∧ Bl w6 wy) (fun _ u _ => v.marks.length - (RowKit.intOf u).toNat)
    case atStart => exact ⟨0, Nat.zero_le _, rfl, by rw [← Hr0.out], Hbr.out⟩
    case round =>
     clear k2 k3
     rename World => wy
     obtain ⟨i, hi, rfl, rfl, hby⟩ := hrel
     have k2 := (BV.out.bl hby).all4
     have k3 := (B6.out.bl hby).all9
     by_cases hli : i < v.marks.length
     · have hg : v.marks[i]? = some v.marks[i] := List.getElem?_eq_getElem hli
       obtain ⟨m, hm⟩ : ∃ z, z = v.marks[i] := ⟨_, rfl⟩
       rw [← hm] at hg
       obtain ⟨ad, u1, eA, hu, hc1⟩ := (HV6.out.bl hby).at_ hli
       have hu1 : u1 = .int .i64 m := by
        rw [List.getElem?_map, hg] at hu
        exact (Option.some.inj hu).symm
       subst hu1
       have hst := rangeTo_snoc e0 x (v.marks.take i) m
       rw [← take_snoc hg] at hst
       obtain ⟨PE, hPE⟩ : ∃ e, e = rangeTo e0 x (v.marks.take i) := ⟨_, rfl⟩
       rw [← hPE] at hst ⊢
       have Hst := Lib.hid hst; have Hby := Lib.hid hby
       clear hg hm hu hby hst hPE
       rw [eA]
       go_upto_region 16 with fail
       rw [← eA]
       go_wp2_with (first | (go_at_call 12; refine (in_any _ _ _ _).mono ?_; rintro e w' ⟨rfl, rfl⟩) | (go_at_call 10; refine (when_any _ _ _).mono ?_; rintro e w' ⟨rfl, rfl⟩) | (go_at_call 7; refine (first2_any _ _ _ _ (Blk.new _ _ _)).mono ?_; rintro e w' ⟨rfl, rfl⟩))
       exact ⟨⟨i + 1, hli, by go_num, by rw [← Hst.out] <;> rfl, Hby.out.alloc _⟩, by simp [RowKit.intOf]; omega⟩
     · obtain rfl : i = v.marks.length := by omega
       have HX := Lib.hid (show rangeTo e0 x (v.marks.take v.marks.length) = VE by rw [List.take_length, HVE3.out])
       rw [HX.out]
       go_wp2_with fail
       go_ret
       exact ⟨rfl, HW1b.out.trans (Hb2.out.trans (Hb6.out.trans hby))⟩
end Go.Proofs.YthobmednnocklaaGreatDoor


/-! forms.paper: the empty form, in memory of its own. -/
namespace Go.Proofs.YthobmednnocklaaGreatDoor
open Go.RowKit Go.Shelf

set_option maxRecDepth 100000 in
set_option maxHeartbeats 4000000 in
theorem paper_any (f : Frm) (W H r : Nat) (w : World) (hfit : Fits f W H r) (hF : FrmAt w f) :
 Calls Tryz.prog 64 #[f.val] w fun e w' => ∃ v, e = .returned v ∧ BPage w.heap.size w' v W H (paperTo W H f.la f.la.length) ∧ Bl w w' := by
 have hat := fun (a : Anc) (ha : a ∈ f.la) => hfit.at_ ha
 have hl10 : f.la.length ≤ 10 := hfit.hla
 have e1 := hfit.fW
 have e2 := hfit.fH
 have hW := hfit.hW
 have hH := hfit.hH
 have hWH := hfit.hWH
 have hs0 : sizeErr (W : Int) (H : Int) = 0 := by
  have := Int.natCast_mul W H
  unfold sizeErr
  rw [if_pos (by omega), if_neg (by omega)]
 obtain ⟨nm, fW, fH, reach, dark, AL, ac, la, FL, fc, lf, RL, rc, lr⟩ := f
 simp only at e1 e2 hl10
 subst e1 e2
 have hat2 : ∀ a ∈ la, ∃ BW BH : Nat, a.W = (BW : Int) ∧ a.H = (BH : Int) ∧ a.m = BW * BH ∧ sizeErr (BW : Int) (BH : Int) = 0 ∧ (0 ≤ a.X ∧ a.X ≤ 4000) ∧ (0 ≤ a.Y ∧ a.Y ≤ 4000) := fun a ha => by
  obtain ⟨BW, BH, q1, q2, q3, q4, q5, q6, q7, q8⟩ := hat a ha
  have hin := of_decide_eq_true (show decide (0 ≤ a.X ∧ a.X < (W : Int) ∧ 0 ≤ a.Y ∧ a.Y < (H : Int) ∧ 1 ≤ a.W ∧ a.W ≤ (W : Int) - a.X ∧ 1 ≤ a.H ∧ a.H ≤ (H : Int) - a.Y) = true from q4)
  have := Int.natCast_mul BW BH
  exact ⟨BW, BH, q1, q2, q3, by unfold sizeErr; rw [if_pos (by omega), if_neg (by omega)], by omega, by omega⟩
 let w1 := ((w).alloc (.cells #[.string ⟨nm.toArray⟩, .int .i64 W, .int .i64 H, .int .i64 reach, .int .i64 dark, .slice AL la.length ac, .slice FL lf.length fc, .slice RL lr.length rc] 75)).alloc (.cells #[.int .i64 0, .int .i64 0, .slice none 0 0] 24)
 have w1b : Bl w w1 := ((Bl.refl w).alloc _).alloc _
 have w11 : Blk w1 (w.heap.size) 75 #[.string ⟨nm.toArray⟩, .int .i64 W, .int .i64 H, .int .i64 reach, .int .i64 dark, .slice AL la.length ac, .slice FL lf.length fc, .slice RL lr.length rc] := by
  have h0 := Blk.new (w) 75 #[.string ⟨nm.toArray⟩, .int .i64 W, .int .i64 H, .int .i64 reach, .int .i64 dark, .slice AL la.length ac, .slice FL lf.length fc, .slice RL lr.length rc]
  exact (h0.alloc _)
 have w12 : Blk w1 (w.heap.size + 1) 24 #[.int .i64 0, .int .i64 0, .slice none 0 0] := by
  have h0 := Blk.new ((w).alloc (.cells #[.string ⟨nm.toArray⟩, .int .i64 W, .int .i64 H, .int .i64 reach, .int .i64 dark, .slice AL la.length ac, .slice FL lf.length fc, .slice RL lr.length rc] 75)) 24 #[.int .i64 0, .int .i64 0, .slice none 0 0]
  simp only [World.size_alloc] at h0
  exact h0
 have sz1 : w1.heap.size = w.heap.size + 2 := by simp [w1]
 have HFA := Lib.hid (hF.ancs.bl w1b); have Hat := Lib.hid hat2; have Hs0 := Lib.hid hs0
 have k1 := w11.all8
 have HW1b := Lib.hid w1b
 have Hbk := Lib.hid (fun wx => blankB_ok W H wx hs0)
 unfold Frm.val
 clear hF hat hat2 hfit w1b hs0
 go_enter Tryz.func64, Tryz.ntmps64
 go_upto_region 1 with fail
 rw [show (w.alloc (.cells #[.string ⟨nm.toArray⟩, .int .i64 W, .int .i64 H, .int .i64 reach, .int .i64 dark, .slice AL la.length ac, .slice FL lf.length fc, .slice RL lr.length rc] 75)).alloc (.cells #[.int .i64 0, .int .i64 0, .slice none 0 0] 24) = w1 from rfl]
 clear_value w1
 go_upto_region 2 with (go_at_call 86; refine (Hbk.out _).mono ?_; rintro e w2 ⟨v0, rfl, ⟨g0, rfl, hg0, hgl0, hgn0⟩, hb2⟩)
 obtain ⟨p, hp⟩ : ∃ p, p = w2.heap.size := ⟨_, rfl⟩
 obtain ⟨w3, hw3⟩ : ∃ x, x = w2.alloc (.cells #[.int .i64 W, .int .i64 H, .slice (some ⟨g0, 0, none⟩) (W * H) (W * H)] 24) := ⟨_, rfl⟩
 have b3 : Blk w3 p 24 #[.int .i64 W, .int .i64 H, .slice (some ⟨g0, 0, none⟩) (W * H) (W * H)] := by rw [hw3, hp]; exact Blk.new _ _ _
 have hb3 : Bl w2 w3 := by rw [hw3]; exact (Bl.refl _).alloc _
 rw [← hw3, ← hp]
 have k1 := (w11.bl (hb2.trans hb3)).all8
 have hpw : w1.heap.size ≤ p := by rw [hp]; exact hb2.le
 have H0 := Lib.hid (show Bl w1 w3 ∧ Blk w3 g0 4 ((paperTo W H la 0).map Value.bool).toArray ∧ (paperTo W H la 0).length = W * H ∧ w1.heap.size ≤ g0 ∧ g0 ≠ p from
  ⟨hb2.trans hb3, hg0.bl hb3, hgl0, hgn0, by have := hg0.lt; omega⟩)
 have B3 := Lib.hid b3
 clear hw3 b3 hb3 hb2 hg0 hgl0 hgn0 hp
 go_wp2_with fail
 go_loopw [18] (fun u wr => ∃ i g : Nat, i ≤ la.length ∧ u = .int .i64 i ∧ Bl w1 wr ∧ Blk wr p 24 #[.int .i64 W, .int .i64 H, .slice (some ⟨g, 0, none⟩) (W * H) (W * H)] ∧ Blk wr g 4 ((paperTo W H la i).map Value.bool).toArray ∧ (paperTo W H la i).length = W * H ∧ w1.heap.size ≤ g ∧ g ≠ p) (fun u _ => la.length - (RowKit.intOf u).toNat)
 case atStart => exact ⟨0, g0, Nat.zero_le _, rfl, H0.out.1, B3.out, H0.out.2⟩
 case round =>
  clear k1
  obtain ⟨i, g, hi, rfl, hbr, hbp, hbg, hgl, hgn, hgp⟩ := hrel
  by_cases hlt : i < la.length
  · have hg : la[i]? = some la[i] := List.getElem?_eq_getElem hlt
    obtain ⟨a, ha2⟩ : ∃ l, l = la[i] := ⟨_, rfl⟩
    rw [← ha2] at hg
    obtain ⟨ad, e1, j1, j2, j3, j4, j5⟩ := (HFA.out.bl hbr).at_ hg
    subst e1
    obtain ⟨BW, BH, q1, q2, q3, q4, q5, q6⟩ := Hat.out a (List.mem_of_getElem? hg)
    have HAr := Lib.hid (HFA.out.2 a (List.mem_of_getElem? hg))
    have Hst := Lib.hid (paperTo_succ (W := W) (H := H) hg q1 q2)
    have Hbr := Lib.hid hbr; have Hq4 := Lib.hid q4
    obtain ⟨BS, hBS⟩ : ∃ b, b = paperTo W H la i := ⟨_, rfl⟩
    rw [← hBS] at hbg hgl Hst
    have HG := Lib.hid hbg; have Hgl := Lib.hid hgl
    rw [q1] at j1
    rw [q2] at j2
    rw [q3] at j3
    clear hg ha2 hbr q1 q2 q4 hBS hbg hgl
    go_upto_region 5 with fail
    obtain ⟨w5, hw5⟩ : ∃ x, x = wr.alloc (.cells #[.int .i64 BW, .int .i64 BH, .slice a.A (BW * BH) a.c, .int .i64 a.X, .int .i64 a.Y] 141) := ⟨_, rfl⟩
    have b5 : Blk w5 wr.heap.size 141 #[.int .i64 BW, .int .i64 BH, .slice a.A (BW * BH) a.c, .int .i64 a.X, .int .i64 a.Y] := by rw [hw5]; exact Blk.new _ _ _
    have hb5 : Bl wr w5 := by rw [hw5]; exact (Bl.refl _).alloc _
    rw [← hw5]
    have k1 := (w11.bl (Hbr.out.trans hb5)).all8
    have k2 := (hbp.bl hb5).all3
    have k3 := b5.all5
    have Hb5 := Lib.hid (Hbr.out.trans hb5)
    have HP := Lib.hid (hbp.bl hb5)
    have hcall := pasteB_any W H BW BH _ _ BS a.bs a.X a.Y w5 (BPage.is ⟨g, rfl, HG.out.bl hb5, Hgl.out, Nat.zero_le _⟩) ⟨a.A, a.c, rfl, by rw [← q3]; exact HAr.out.bl Hb5.out⟩ Hs0.out Hq4.out (by omega) (by omega)
    have Hcall := Lib.hid hcall
    have hple : p < w5.heap.size := HP.out.lt
    clear hw5 b5 hb5 j1 j2 j3 j4 j5 hcall hbp
    go_wp2_with fail
    refine Hcall.out.mono ?_
    rintro e w6 ⟨v6, rfl, ⟨g6, rfl, hg6, hgl6, hgn6⟩, hb6⟩
    have HP6 := Lib.hid (HP.out.bl hb6)
    have k2 := HP6.out.all3
    have Hb6 := Lib.hid (Hb5.out.trans hb6)
    have HG6 := Lib.hid hg6; have Hgl6 := Lib.hid hgl6; have Hgn6 := Lib.hid (show g6 ≠ p ∧ w1.heap.size ≤ g6 from ⟨by omega, by have := Hb5.out.le; omega⟩)
    clear hg6 hgl6 hb6
    go_wp2_with fail
    refine ⟨⟨i + 1, g6, hlt, by go_num, ((Hb6.out.setCell hpw _).setCell hpw _).setCell hpw _, ((HP6.out.set_ 0 _).set_ 1 _).set_ 2 _, ?_, ?_, Hgn6.out.2, Hgn6.out.1⟩, by simp [RowKit.intOf]; omega⟩
    · rw [Hst.out]; exact ((HG6.out.far Hgn6.out.1 _).far Hgn6.out.1 _).far Hgn6.out.1 _
    · rw [Hst.out]; exact Hgl6.out
  · obtain rfl : i = la.length := by omega
    have k2 := hbp.all3
    have B2 := Lib.hid (w12.bl hbr)
    have k3 := B2.out.all3
    have Hbr := Lib.hid (HW1b.out.trans hbr); have HG := Lib.hid hbg; have Hgl := Lib.hid hgl
    have hlt2 := w12.lt
    have hgne : g ≠ w.heap.size + 1 := by omega
    clear hbr hbp hbg hgl
    go_wp2_with fail
    obtain ⟨wS, hwS⟩ : ∃ x, x = ((wr.setCell ⟨w.heap.size + 1, 0, none⟩ (.int .i64 W)).setCell ⟨w.heap.size + 1, 1, none⟩ (.int .i64 H)).setCell ⟨w.heap.size + 1, 2, none⟩ (.slice (some ⟨g, 0, none⟩) (W * H) (W * H)) := ⟨_, rfl⟩
    have bS : Blk wS (w.heap.size + 1) 24 #[.int .i64 W, .int .i64 H, .slice (some ⟨g, 0, none⟩) (W * H) (W * H)] := by rw [hwS]; exact ((B2.out.set_ 0 _).set_ 1 _).set_ 2 _
    have bG : Blk wS g 4 ((paperTo W H la la.length).map Value.bool).toArray := by rw [hwS]; exact ((HG.out.far hgne _).far hgne _).far hgne _
    have hS : Bl w wS := by rw [hwS]; exact ((Hbr.out.setCell (Nat.le_succ _) _).setCell (Nat.le_succ _) _).setCell (Nat.le_succ _) _
    rw [← hwS]
    have kF := bS.all3
    refine bodyPost_ret (v := .agg #[.int .i64 W, .int .i64 H, .slice (some ⟨g, 0, none⟩) (W * H) (W * H)]) (by simp [results, Tryz.results64, go_sem, kF]) rfl ⟨_, rfl, ⟨g, rfl, bG, Hgl.out, by omega⟩, hS⟩
end Go.Proofs.YthobmednnocklaaGreatDoor


/-! bedref2.PaperOf. -/
namespace Go.Proofs.YthobmednnocklaaGreatDoor
open Go.RowKit Go.Shelf

theorem paperOf1_any (x y : Nat) (w : World) : Calls Tryz.prog 143 #[.int .i64 x, .int .i64 y] w fun e w' => e = .returned (.bool false) ∧ Bl w w' := by
 go_enter Tryz.func143, Tryz.ntmps143
 go_wp2_with fail
 go_ret
 exact ⟨rfl, Bl.refl _⟩
theorem madeR_blank (W H : Nat) (w : World) (hW : W ≤ 1048576) (hH : H ≤ 1048576) (hWH : W * H ≤ 1048576) :
 Calls Tryz.prog 45 #[.int .i64 W, .int .i64 H, .func (.func 143) #[] #[]] w fun e w' => ∃ v, e = .returned v ∧ NPage w.heap.size w' v W H ((grid W H (fun _ _ => false)).map Value.bool) ∧ Bl w w' :=
 Made_any W H (fun _ _ => false) _ _ w hW hH (by omega) ⟨enters Tryz.func143 (by kernel_rfl) rfl, fun wx x y _ _ _ => paperOf1_any x y wx⟩
set_option maxRecDepth 100000 in
set_option maxHeartbeats 4000000 in
theorem paperOf_any (f : Frm) (W H r : Nat) (w : World) (hfit : Fits f W H r) (hF : FrmAt w f) :
 Calls Tryz.prog 74 #[f.val] w fun e w' => ∃ v, e = .returned v ∧ NPage w.heap.size w' v W H ((paperTo W H f.la f.la.length).map .bool) ∧ Bl w w' := by
 have hat := fun (a : Anc) (ha : a ∈ f.la) => hfit.at_ ha
 have hl10 : f.la.length ≤ 10 := hfit.hla
 have e1 := hfit.fW
 have e2 := hfit.fH
 have hW := hfit.hW
 have hH := hfit.hH
 have hWH := hfit.hWH
 have hs0 : sizeErr (W : Int) (H : Int) = 0 := by
  have := Int.natCast_mul W H
  unfold sizeErr
  rw [if_pos (by omega), if_neg (by omega)]
 obtain ⟨nm, fW, fH, reach, dark, AL, ac, la, FL, fc, lf, RL, rc, lr⟩ := f
 simp only at e1 e2 hl10
 subst e1 e2
 have hat2 : ∀ a ∈ la, ∃ BW BH : Nat, a.W = (BW : Int) ∧ a.H = (BH : Int) ∧ a.m = BW * BH ∧ sizeErr (BW : Int) (BH : Int) = 0 ∧ (0 ≤ a.X ∧ a.X ≤ 4000) ∧ (0 ≤ a.Y ∧ a.Y ≤ 4000) := fun a ha => by
  obtain ⟨BW, BH, q1, q2, q3, q4, q5, q6, q7, q8⟩ := hat a ha
  have hin := of_decide_eq_true (show decide (0 ≤ a.X ∧ a.X < (W : Int) ∧ 0 ≤ a.Y ∧ a.Y < (H : Int) ∧ 1 ≤ a.W ∧ a.W ≤ (W : Int) - a.X ∧ 1 ≤ a.H ∧ a.H ≤ (H : Int) - a.Y) = true from q4)
  have := Int.natCast_mul BW BH
  exact ⟨BW, BH, q1, q2, q3, by unfold sizeErr; rw [if_pos (by omega), if_neg (by omega)], by omega, by omega⟩
 let w1 := ((w).alloc (.cells #[.string ⟨nm.toArray⟩, .int .i64 W, .int .i64 H, .int .i64 reach, .int .i64 dark, .slice AL la.length ac, .slice FL lf.length fc, .slice RL lr.length rc] 75)).alloc (.cells #[.int .i64 0, .int .i64 0, .slice none 0 0] 24)
 have w1b : Bl w w1 := ((Bl.refl w).alloc _).alloc _
 have w11 : Blk w1 (w.heap.size) 75 #[.string ⟨nm.toArray⟩, .int .i64 W, .int .i64 H, .int .i64 reach, .int .i64 dark, .slice AL la.length ac, .slice FL lf.length fc, .slice RL lr.length rc] := by
  have h0 := Blk.new (w) 75 #[.string ⟨nm.toArray⟩, .int .i64 W, .int .i64 H, .int .i64 reach, .int .i64 dark, .slice AL la.length ac, .slice FL lf.length fc, .slice RL lr.length rc]
  exact (h0.alloc _)
 have w12 : Blk w1 (w.heap.size + 1) 24 #[.int .i64 0, .int .i64 0, .slice none 0 0] := by
  have h0 := Blk.new ((w).alloc (.cells #[.string ⟨nm.toArray⟩, .int .i64 W, .int .i64 H, .int .i64 reach, .int .i64 dark, .slice AL la.length ac, .slice FL lf.length fc, .slice RL lr.length rc] 75)) 24 #[.int .i64 0, .int .i64 0, .slice none 0 0]
  simp only [World.size_alloc] at h0
  exact h0
 have sz1 : w1.heap.size = w.heap.size + 2 := by simp [w1]
 have HFA := Lib.hid (hF.ancs.bl w1b); have Hat := Lib.hid hat2; have Hs0 := Lib.hid hs0
 have k1 := w11.all8
 have HW1b := Lib.hid w1b
 have Hbk := Lib.hid (fun wx => madeR_blank W H wx (by omega) (by omega) (by omega))
 unfold Frm.val
 clear hF hat hat2 hfit w1b hs0
 go_enter Tryz.func74, Tryz.ntmps74
 go_upto_region 1 with fail
 rw [show (w.alloc (.cells #[.string ⟨nm.toArray⟩, .int .i64 W, .int .i64 H, .int .i64 reach, .int .i64 dark, .slice AL la.length ac, .slice FL lf.length fc, .slice RL lr.length rc] 75)).alloc (.cells #[.int .i64 0, .int .i64 0, .slice none 0 0] 24) = w1 from rfl]
 clear_value w1
 go_upto_region 2 with (go_at_call 45; refine (Hbk.out _).mono ?_; rintro e w2 ⟨v0, rfl, ⟨A0, c0, rfl, hr0, hn0⟩, hb2⟩)
 obtain ⟨p, hp⟩ : ∃ p, p = w2.heap.size := ⟨_, rfl⟩
 obtain ⟨w3, hw3⟩ : ∃ x, x = w2.alloc (.cells #[.int .i64 W, .int .i64 H, .slice A0 (W * H) c0] 24) := ⟨_, rfl⟩
 have b3 : Blk w3 p 24 #[.int .i64 W, .int .i64 H, .slice A0 (W * H) c0] := by rw [hw3, hp]; exact Blk.new _ _ _
 have hb3 : Bl w2 w3 := by rw [hw3]; exact (Bl.refl _).alloc _
 rw [← hw3, ← hp]
 have k1 := (w11.bl (hb2.trans hb3)).all8
 have hpw : w1.heap.size ≤ p := by rw [hp]; exact hb2.le
 have H0 := Lib.hid (show Bl w1 w3 ∧ Reads w3 1 A0 (W * H) ((paperTo W H la 0).map .bool) ∧ (∀ ad, A0 = some ad → w1.heap.size ≤ ad.block) from
  ⟨hb2.trans hb3, by rw [show paperTo W H la 0 = grid W H (fun _ _ => false) from (grid_false W H).symm]; exact hr0.bl hb3, hn0⟩)
 have B3 := Lib.hid b3
 clear hw3 b3 hb3 hb2 hr0 hn0 hp
 go_wp2_with fail
 go_loopw [14] (fun u wr => ∃ (i : Nat) (A : Option Addr) (c : Nat), i ≤ la.length ∧ u = .int .i64 i ∧ Bl w1 wr ∧ Blk wr p 24 #[.int .i64 W, .int .i64 H, .slice A (W * H) c] ∧ Reads wr 1 A (W * H) ((paperTo W H la i).map .bool) ∧ (∀ ad, A = some ad → w1.heap.size ≤ ad.block)) (fun u _ => la.length - (RowKit.intOf u).toNat)
 case atStart => exact ⟨0, A0, c0, Nat.zero_le _, rfl, H0.out.1, B3.out, H0.out.2⟩
 case round =>
  clear k1
  obtain ⟨i, A, c, hi, rfl, hbr, hbp, hbg, hgn⟩ := hrel
  by_cases hlt : i < la.length
  · have hg : la[i]? = some la[i] := List.getElem?_eq_getElem hlt
    obtain ⟨a, ha2⟩ : ∃ l, l = la[i] := ⟨_, rfl⟩
    rw [← ha2] at hg
    obtain ⟨ad, e1, j1, j2, j3, j4, j5⟩ := (HFA.out.bl hbr).at_ hg
    subst e1
    obtain ⟨BW, BH, q1, q2, q3, q4, q5, q6⟩ := Hat.out a (List.mem_of_getElem? hg)
    have HAr := Lib.hid (HFA.out.2 a (List.mem_of_getElem? hg))
    have Hst := Lib.hid (paperTo_succ (W := W) (H := H) hg q1 q2)
    have Hbr := Lib.hid hbr; have Hq4 := Lib.hid q4
    obtain ⟨BS, hBS⟩ : ∃ b, b = paperTo W H la i := ⟨_, rfl⟩
    rw [← hBS] at hbg Hst
    have HG := Lib.hid hbg
    rw [q1] at j1
    rw [q2] at j2
    rw [q3] at j3
    clear hg ha2 hbr q1 q2 q4 hBS hbg hgn
    go_upto_region 5 with fail
    obtain ⟨w5, hw5⟩ : ∃ x, x = wr.alloc (.cells #[.int .i64 BW, .int .i64 BH, .slice a.A (BW * BH) a.c, .int .i64 a.X, .int .i64 a.Y] 141) := ⟨_, rfl⟩
    have b5 : Blk w5 wr.heap.size 141 #[.int .i64 BW, .int .i64 BH, .slice a.A (BW * BH) a.c, .int .i64 a.X, .int .i64 a.Y] := by rw [hw5]; exact Blk.new _ _ _
    have hb5 : Bl wr w5 := by rw [hw5]; exact (Bl.refl _).alloc _
    rw [← hw5]
    have k1 := (w11.bl (Hbr.out.trans hb5)).all8
    have k2 := (hbp.bl hb5).all3
    have k3 := b5.all5
    have Hb5 := Lib.hid (Hbr.out.trans hb5)
    have HP := Lib.hid (hbp.bl hb5)
    have hcall := pasteOf_any W H BW BH _ _ BS a.bs a.X a.Y w5 ⟨A, c, rfl, HG.out.bl hb5⟩ ⟨a.A, a.c, rfl, by rw [← q3]; exact HAr.out.bl Hb5.out⟩ (by omega) (by omega) (by have := sizeErr_zero Hq4.out; omega) (by have := sizeErr_zero Hq4.out; omega)
    have Hcall := Lib.hid hcall
    have hple : p < w5.heap.size := HP.out.lt
    clear hw5 b5 hb5 j1 j2 j3 j4 j5 hcall hbp
    go_wp2_with fail
    refine Hcall.out.mono ?_
    rintro e w6 ⟨v6, rfl, ⟨A6, c6, rfl, hg6, hgn6⟩, hb6⟩
    have HP6 := Lib.hid (HP.out.bl hb6)
    have k2 := HP6.out.all3
    have Hb6 := Lib.hid (Hb5.out.trans hb6)
    have HG6 := Lib.hid hg6; have Hgn6 := Lib.hid hgn6; have Hle5 := Lib.hid Hb5.out.le
    clear hg6 hgn6 hb6
    go_wp2_with fail
    refine ⟨⟨i + 1, A6, c6, hlt, by go_num, ((Hb6.out.setCell hpw _).setCell hpw _).setCell hpw _, ((HP6.out.set_ 0 _).set_ 1 _).set_ 2 _, ?_, fun ad h => Nat.le_trans Hle5.out (Hgn6.out ad h)⟩, by simp [RowKit.intOf]; omega⟩
    rw [Hst.out]
    exact ((HG6.out.store Hgn6.out hple _).store Hgn6.out hple _).store Hgn6.out hple _
  · obtain rfl : i = la.length := by omega
    have k2 := hbp.all3
    have B2 := Lib.hid (w12.bl hbr)
    have k3 := B2.out.all3
    have Hbr := Lib.hid (HW1b.out.trans hbr); have HG := Lib.hid hbg; have Hgn := Lib.hid hgn
    have hlt2 := w12.lt
    clear hbr hbp hbg hgn
    go_wp2_with fail
    obtain ⟨wS, hwS⟩ : ∃ x, x = ((wr.setCell ⟨w.heap.size + 1, 0, none⟩ (.int .i64 W)).setCell ⟨w.heap.size + 1, 1, none⟩ (.int .i64 H)).setCell ⟨w.heap.size + 1, 2, none⟩ (.slice A (W * H) c) := ⟨_, rfl⟩
    have bS : Blk wS (w.heap.size + 1) 24 #[.int .i64 W, .int .i64 H, .slice A (W * H) c] := by rw [hwS]; exact ((B2.out.set_ 0 _).set_ 1 _).set_ 2 _
    have bG : Reads wS 1 A (W * H) ((paperTo W H la la.length).map .bool) := by rw [hwS]; exact ((HG.out.store Hgn.out hlt2 _).store Hgn.out hlt2 _).store Hgn.out hlt2 _
    have hS : Bl w wS := by rw [hwS]; exact ((Hbr.out.setCell (Nat.le_succ _) _).setCell (Nat.le_succ _) _).setCell (Nat.le_succ _) _
    rw [← hwS]
    have kF := bS.all3
    refine bodyPost_ret (v := .agg #[.int .i64 W, .int .i64 H, .slice A (W * H) c]) (by simp [results, Tryz.results74, go_sem, kF]) rfl ⟨_, rfl, ⟨A, c, rfl, bG, fun ad h => by have := Hgn.out ad h; omega⟩, hS⟩
end Go.Proofs.YthobmednnocklaaGreatDoor


/-! What bedref2.ruleError asks of a text: strings.ContainsFunc of what is no printable sign, slices.Contains of texts. -/
namespace Go.Proofs
open Go.Shelf
def Tryz.lays17w_ren : Go.Shelf.Ren := ⟨fun | 17 => 140 | 15 => 225 | 20 => 298 | n => n, fun | 9 => 9 | 23 => 227 | 4 => 4 | 3 => 3 | 0 => 0 | 21 => 21 | n => n, fun | n => n⟩
theorem Tryz.lays17w : Go.Proofs.LaysGw.n17 Tryz.prog Tryz.lays17w_ren := {
 mixed := by kernel_rfl
 f15 := Tryz.func225.trans (congrArg some (by kernel_rfl))
 f17 := Tryz.func140.trans (congrArg some (by kernel_rfl))
 f20 := Tryz.func298.trans (congrArg some (by kernel_rfl))
 t0 := Tryz.underlying0
 a0 := Tryz.isAgg0
 z0 := Tryz.sizeOf0
 v0 := Tryz.zeroValue0
 i0 := by kernel_rfl
 t3 := Tryz.underlying3
 a3 := Tryz.isAgg3
 z3 := Tryz.sizeOf3
 v3 := Tryz.zeroValue3
 i3 := by kernel_rfl
 t4 := Tryz.underlying4
 a4 := Tryz.isAgg4
 z4 := Tryz.sizeOf4
 v4 := Tryz.zeroValue4
 i4 := by kernel_rfl
 t9 := Tryz.underlying9
 a9 := Tryz.isAgg9
 z9 := Tryz.sizeOf9
 v9 := Tryz.zeroValue9
 i9 := by kernel_rfl
 t21 := Tryz.underlying21
 a21 := Tryz.isAgg21
 z21 := Tryz.sizeOf21
 v21 := Tryz.zeroValue21
 i21 := by kernel_rfl
 t23 := Tryz.underlying227
 a23 := Tryz.isAgg227
 z23 := Tryz.sizeOf227
 v23 := Tryz.zeroValue227
 i23 := by kernel_rfl }

end Go.Proofs
namespace Go.Proofs.YthobmednnocklaaGreatDoor
open Go.RowKit Go.Shelf

def oddR (r : Nat) : Bool := decide (r < 32) || decide (126 < r)
theorem idxFrom_iff (p : Nat → Bool) (hp : ∀ r, 128 ≤ r → p r = true) (s : ByteArray) : ∀ (f pos : Nat), s.size ≤ pos + f → (0 ≤ Go.Lib.idxFuncFrom p true s f pos ↔ ∃ (j : Nat) (h : j < s.size), pos ≤ j ∧ p (s[j]'h).toNat = true)
 | 0, pos, hf => by
  show (0 ≤ (-1 : Int)) ↔ _
  exact ⟨fun h => absurd h (by decide), fun ⟨j, h, h1, _⟩ => by omega⟩
 | f + 1, pos, hf => by
  unfold Go.Lib.idxFuncFrom
  by_cases hlt : pos < s.size
  · rw [if_pos hlt]
    by_cases ha : (s[pos]'hlt).toNat < 128
    · rw [decode_ascii s pos hlt ha]
      by_cases hc : p (s[pos]'hlt).toNat = true
      · rw [if_pos hc]
        exact ⟨fun _ => ⟨pos, hlt, Nat.le_refl _, hc⟩, fun _ => Int.natCast_nonneg _⟩
      · rw [if_neg hc]
        rw [idxFrom_iff p hp s f (pos + 1) (by omega)]
        constructor
        · rintro ⟨j, h, h1, h2⟩; exact ⟨j, h, by omega, h2⟩
        · rintro ⟨j, h, h1, h2⟩
          refine ⟨j, h, ?_, h2⟩
          rcases Nat.lt_or_eq_of_le h1 with h3 | rfl
          · omega
          · exact absurd h2 hc
    · have hd := (decode_high s pos hlt (by omega)).1
      rw [if_pos (hp _ hd)]
      exact ⟨fun _ => ⟨pos, hlt, Nat.le_refl _, hp _ (by omega)⟩, fun _ => Int.natCast_nonneg _⟩
  · rw [if_neg hlt]
    exact ⟨fun h => absurd h (by decide), fun ⟨j, h, h1, _⟩ => by omega⟩
theorem idx_any (p : Nat → Bool) (hp : ∀ r, 128 ≤ r → p r = true) (t : List UInt8) : decide (0 ≤ Go.Lib.idxFunc p true ⟨t.toArray⟩) = t.any fun b => p b.toNat := by
 rw [Bool.eq_iff_iff, decide_eq_true_eq, List.any_eq_true]
 unfold Go.Lib.idxFunc
 rw [idxFrom_iff p hp _ _ 0 (by omega)]
 have hsz : (⟨t.toArray⟩ : ByteArray).size = t.length := Lib.size_mk t
 constructor
 · rintro ⟨j, h, -, h2⟩
   have hg := Lib.getElem_mk t j h
   exact ⟨_, List.mem_of_getElem? hg, h2⟩
 · rintro ⟨b, hb, h2⟩
   obtain ⟨j, hj⟩ := List.getElem?_of_mem hb
   have hlt : j < (⟨t.toArray⟩ : ByteArray).size := by rw [hsz]; exact (List.getElem?_eq_some_iff.1 hj).1
   have hg := Lib.getElem_mk t j hlt
   rw [hj] at hg
   refine ⟨j, hlt, Nat.zero_le _, ?_⟩
   rw [← Option.some.inj hg]
   exact h2
theorem mem_joinW : ∀ (l : List (List UInt8)) (b : UInt8), b ∈ joinW l → b = 32 ∨ ∃ x ∈ l, b ∈ x
 | [], b, h => by cases h
 | [x], b, h => .inr ⟨x, List.mem_singleton.2 rfl, h⟩
 | x :: y :: l, b, h => by
  have h : b ∈ x ++ 32 :: joinW (y :: l) := h
  rcases List.mem_append.1 h with h | h
  · exact .inr ⟨x, List.mem_cons_self .., h⟩
  · rcases List.mem_cons.1 h with h | h
    · exact .inl h
    · rcases mem_joinW (y :: l) b h with h | ⟨z, hz, h⟩
      · exact .inl h
      · exact .inr ⟨z, List.mem_cons_of_mem _ hz, h⟩
theorem joinW_mem : ∀ (l : List (List UInt8)) (x : List UInt8) (b : UInt8), x ∈ l → b ∈ x → b ∈ joinW l
 | [], x, b, h, _ => by cases h
 | [z], x, b, h, hb => by rw [List.mem_singleton.1 h] at hb; exact hb
 | z :: y :: l, x, b, h, hb => by
  show b ∈ z ++ 32 :: joinW (y :: l)
  rcases List.mem_cons.1 h with rfl | h
  · exact List.mem_append_left _ hb
  · exact List.mem_append_right _ (List.mem_cons_of_mem _ (joinW_mem (y :: l) x b h hb))
/-- Words, as bedref2 asks for them. -/
theorem words_two (t : List UInt8) : wordsB t = !(decide ([] ∈ wordsOf t) || t.any fun b => oddR b.toNat) := by
 obtain ⟨-, hj, hn⟩ := wordsOf_spec _ t (Nat.le_refl _)
 rw [Bool.eq_iff_iff]
 simp only [Bool.not_eq_true', Bool.or_eq_false_iff, decide_eq_false_iff_not, List.any_eq_false]
 unfold wordsB
 rw [List.all_eq_true]
 constructor
 · intro h
   refine ⟨fun hm => by have := h [] hm; simp at this, fun b hb => ?_⟩
   rw [← hj] at hb
   have hb' : 32 ≤ b.toNat ∧ b.toNat ≤ 126 := by
    rcases mem_joinW _ b hb with rfl | ⟨x, hx, hbx⟩
    · decide
    · have := h x hx
      rw [Bool.and_eq_true] at this
      have h2 := of_decide_eq_true (show decide (∀ b ∈ x, 33 ≤ b.toNat ∧ b.toNat ≤ 126) = true from this.2) b hbx
      omega
   unfold oddR
   simp
   omega
 · rintro ⟨h1, h2⟩ x hx
   rw [Bool.and_eq_true]
   refine ⟨?_, decide_eq_true fun b hb => ?_⟩
   · cases x with
     | nil => exact absurd hx h1
     | cons _ _ => rfl
   · have h3 := h2 b (by rw [← hj]; exact joinW_mem _ x b hx hb)
     have h4 := hn x hx b hb
     unfold oddR at h3
     simp at h3
     have h5 : b.toNat ≠ 32 := fun e => h4 (UInt8.toNat_inj.1 e)
     omega
theorem ruleError1_at (w : World) : Go.Proofs.PredAt Tryz.prog 141 #[] Go.Proofs.encR oddR w := fun W r _ => by
 unfold FnGives
 unfold oddR
 by_cases h1 : r < 32 <;> by_cases h2 : 126 < r
 all_goals
  have z1 : (r : Int) < 32 ↔ r < 32 := by omega
  have z2 : (126 : Int) < (r : Int) ↔ 126 < r := by omega
  go_enter Tryz.func141, Tryz.ntmps141
  go_wp2
  all_goals first | (exfalso; omega) | (go_ret; exact ⟨by simp [h1, h2], 0, rfl⟩)
theorem containsFunc_any (t : List UInt8) (w : World) : Calls Tryz.prog 140 #[.string ⟨t.toArray⟩, .func (.func 141) #[] #[]] w fun e w' => e = .returned (.bool (t.any fun b => oddR b.toNat)) ∧ Bl w w' := by
 have h := Any.strings_ContainsFunc Tryz.lays17w 141 #[] (enters Tryz.func141 (by kernel_rfl) rfl) oddR ⟨t.toArray⟩ w (ruleError1_at w)
 rw [idx_any oddR (fun r hr => by unfold oddR; rw [decide_eq_true (show 126 < r by omega), Bool.or_true]) t] at h
 exact h
set_option maxRecDepth 100000 in
set_option maxHeartbeats 1000000 in
theorem indexS_any (L : Option Addr) (c : Nat) (ts : List (List UInt8)) (x : List UInt8) (w : World) (hL : Reads w 1 L ts.length (strCells' ts)) (hn : ts.length ≤ 9223372036854775807) :
 Calls Tryz.prog 223 #[.slice L ts.length c, .string ⟨x.toArray⟩] w fun e w' => ∃ i : Int, e = .returned (.int .i64 i) ∧ (0 ≤ i ↔ x ∈ ts) ∧ w = w' := by
 have HL := Lib.hid hL
 clear hL
 go_enter Tryz.func223, Tryz.ntmps223
 go_wp2_with fail
 go_loop [8] (fun u => ∃ i : Nat, i ≤ ts.length ∧ u = .int .i64 i ∧ ∀ (j : Nat) y, j < i → ts[j]? = some y → y ≠ x) (fun u => ts.length - (RowKit.intOf u).toNat)
 case atStart => exact ⟨0, Nat.zero_le _, rfl, fun j l hj => absurd hj (Nat.not_lt_zero _)⟩
 case round =>
  obtain ⟨i, hi, rfl, hno⟩ := hrel
  have HNo := Lib.hid hno
  clear hno
  by_cases hlt : i < ts.length
  · have hg : ts[i]? = some ts[i] := List.getElem?_eq_getElem hlt
    obtain ⟨y, hy⟩ : ∃ l, l = ts[i] := ⟨_, rfl⟩
    rw [← hy] at hg
    obtain ⟨ad, rfl, k1⟩ := str_at HL.out hg
    have HG := Lib.hid hg
    clear hg hy
    by_cases he : x = y
    · have HP := Lib.hid (show x ∈ ts by rw [he]; exact List.mem_of_getElem? HG.out)
      subst he
      go_wp2_with fail
      go_ret
      exact ⟨_, rfl, ⟨fun _ => HP.out, fun _ => by omega⟩, rfl⟩
    · have HP := Lib.hid he
      have heq : (x == y) = false := by simpa using he
      go_wp2_with fail
      exact ⟨⟨i + 1, hlt, by go_num, fun j l' hj hl' => by
       rcases Nat.lt_succ_iff_lt_or_eq.1 hj with h | rfl
       · exact HNo.out j l' h hl'
       · rw [HG.out] at hl'
         obtain rfl := Option.some.inj hl'
         exact fun e => HP.out e.symm⟩, by simp [RowKit.intOf]; omega⟩
  · obtain rfl : i = ts.length := by omega
    go_wp2_with fail
    go_ret
    exact ⟨_, rfl, ⟨fun h => absurd h (by decide), fun hm => by
     obtain ⟨j, hj⟩ := List.getElem?_of_mem hm
     exact absurd rfl (HNo.out j x (List.getElem?_eq_some_iff.1 hj).1 hj)⟩, rfl⟩
set_option maxHeartbeats 1000000 in
theorem containsS_any (L : Option Addr) (c : Nat) (ts : List (List UInt8)) (x : List UInt8) (w : World) (hL : Reads w 1 L ts.length (strCells' ts)) (hn : ts.length ≤ 9223372036854775807) :
 Calls Tryz.prog 138 #[.slice L ts.length c, .string ⟨x.toArray⟩] w fun e w' => e = .returned (.bool (decide (x ∈ ts))) ∧ w = w' := by
 have Hc := Lib.hid (indexS_any L c ts x w hL hn)
 clear hL
 go_enter Tryz.func138, Tryz.ntmps138
 go_wp2_with fail
 refine Hc.out.mono ?_
 rintro e w1 ⟨i, rfl, hi, rfl⟩
 have Hi := Lib.hid hi
 clear hi
 go_wp2_with fail
 go_ret
 exact ⟨ret_bool (decide_eq_decide.2 Hi.out), rfl⟩
end Go.Proofs.YthobmednnocklaaGreatDoor
