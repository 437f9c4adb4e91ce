/- The closures of bedref2.BrokenOf: the value of a field, and whether a value is empty. -/
import Derived.Test.YtahfkahfaiidgaaGreatDoorMClaimFormRules23
import Derived.Test.YtahfkahfaiidgaaGreatDoorMClaimFormRules24
import Derived.Test.YtahfkahfaiidgaaGreatDoorMClaimFormRules14
import Derived.Carry
import Derived.MapFrom

namespace Go.Proofs.YtahfkahfaiidgaaGreatDoor
open Go.RowKit Go.Shelf

theorem firstNZ_pair0 (a : Int) : firstNZ [a] = a := by show (if a = 0 then 0 else a) = a; split <;> simp_all
def isField (nm : List UInt8) (v : Vlu) : Bool := decide (v.field = nm)
theorem prev_fields (l : List Vlu) (t : List UInt8) : decide (∃ v ∈ l, isField t v = true) = decide (t ∈ l.map Vlu.field) := by
  apply decide_eq_decide.2
  constructor
  · rintro ⟨v, hv, h⟩
    exact List.mem_map.2 ⟨v, hv, of_decide_eq_true h⟩
  · intro h
    obtain ⟨v, hv, h2⟩ := List.mem_map.1 h
    exact ⟨v, hv, decide_eq_true h2⟩
theorem VlusAt.take {w : World} {L : Option Addr} {l : List Vlu} (h : VlusAt w L l) (i : Nat) (hi : i ≤ l.length) : VlusAt w L (l.take i) := by
  have e : (l.take i).flatMap Vlu.cells = (l.flatMap Vlu.cells).take (i * 4) := by
    conv => rhs; rw [← List.take_append_drop i l, List.flatMap_append]
    rw [List.take_left' (by rw [flat_len Vlu.cells 4 (fun _ => rfl), List.length_take]; omega)]
  refine ⟨?_, fun f hf => h.2 f (List.mem_of_mem_take hf)⟩
  rw [e]
  refine ⟨by rw [List.length_take, flat_len Vlu.cells 4 (fun _ => rfl), List.length_take]; omega, fun hp => ?_⟩
  obtain ⟨ad, e1, hc⟩ := h.1.2 (by rw [List.length_take] at hp; omega)
  refine ⟨ad, e1, fun j u hj => hc j u ?_⟩
  rw [List.getElem?_take] at hj
  split at hj
  · exact hj
  · cases hj
set_option maxRecDepth 100000 in
set_option maxHeartbeats 1000000 in
theorem valueError1_any (b : Nat) (v y : Vlu) (w : World) (hb : Blk w b 73 #[.string ⟨v.field.toArray⟩, .string ⟨v.text.toArray⟩, .slice v.M v.marks.length v.mc, .int .i64 v.sure]) :
    Calls Tryz.prog 87 #[y.val, .pointer (some ⟨b, 0, none⟩)] w fun e w' => e = .returned (.bool (isField v.field y)) ∧ Bl w w' := by
  have k1 := hb.all4
  have hlt := hb.lt
  obtain ⟨nm, hnm⟩ : ∃ n, n = v.field := ⟨_, rfl⟩
  rw [← hnm] at k1 ⊢
  clear hnm hb
  unfold Vlu.val isField
  by_cases he : y.field = nm
  · rw [decide_eq_true he]
    go_enter Tryz.func87, Tryz.ntmps87
    go_wp2_with fail
    go_ret
    exact ⟨by simp [he], (Bl.refl _).alloc _⟩
  · rw [decide_eq_false he]
    go_enter Tryz.func87, Tryz.ntmps87
    go_wp2_with fail
    go_ret
    exact ⟨by simp [he], (Bl.refl _).alloc _⟩
theorem value_twice (L : Option Addr) (c : Nat) (l : List Vlu) (i : Nat) (hi : i ≤ l.length) (b : Nat) (v : Vlu) (w : World) (hL : VlusAt w L l) (hb : Blk w b 73 #[.string ⟨v.field.toArray⟩, .string ⟨v.text.toArray⟩, .slice v.M v.marks.length v.mc, .int .i64 v.sure]) (hn : l.length ≤ 9223372036854775807) :
    ∀ wx, Bl w wx → Calls Tryz.prog 86 #[.slice L i c, .func (.func 87) #[] #[.pointer (some ⟨b, 0, none⟩)]] wx fun e w' => e = .returned (.bool (decide (v.field ∈ (l.take i).map Vlu.field))) ∧ Bl wx w' := by
  intro wx hx
  have hl : (l.take i).length = i := by simp; omega
  have hT : TestsG Vlu.val Tryz.prog 87 #[.pointer (some ⟨b, 0, none⟩)] wx (l.take i) (isField v.field) :=
    ⟨enters Tryz.func87 (by kernel_rfl) rfl, fun wy y hy _ => valueError1_any b v y wy (hb.bl (hx.trans hy))⟩
  have h := vluContains_any L c (l.take i) _ _ _ wx ((hL.bl hx).take i hi) hT (by omega)
  rw [hl] at h
  rw [← prev_fields]
  exact h
set_option maxRecDepth 100000 in
set_option maxHeartbeats 8000000 in
theorem valueError_any (f : Frm) (L : Option Addr) (c : Nat) (l : List Vlu) (i : Nat) (v : Vlu) (w : World) (hF : FrmAt w f) (hL : VlusAt w L l) (hlc : l.length ≤ c) (hln : l.length ≤ 9223372036854775807) (hv : l[i]? = some v) :
    Calls Tryz.prog 41 #[f.val, .slice L l.length c, .int .i64 i, .bool false] w fun e w' => e = .returned (.int .i64 (vluErr f.lf (decide (v.field ∈ (l.take i).map Vlu.field)) v)) ∧ Bl w w' := by
  obtain ⟨nm, fW, fH, reach, dark, AL, ac, la, FL, fc, lf, RL, rc, lr⟩ := f
  obtain ⟨tw, htw⟩ : ∃ b, b = decide (v.field ∈ (l.take i).map Vlu.field) := ⟨_, rfl⟩
  obtain ⟨VE, hVE⟩ : ∃ y, y = vluErr lf tw v := ⟨_, rfl⟩
  show Calls _ _ _ w fun e w' => e = .returned (.int .i64 (vluErr lf (decide (v.field ∈ (l.take i).map Vlu.field)) v)) ∧ Bl w w'
  rw [← htw, ← hVE]
  have HVE := Lib.hid hVE; have Htw := Lib.hid htw
  have hilt : i < l.length := (List.getElem?_eq_some_iff.1 hv).1
  obtain ⟨hV, hvf, hvt, hvl⟩ := hL.2 v (List.mem_of_getElem? hv)
  let w1 := (w).alloc (.cells #[.string ⟨nm.toArray⟩, .int .i64 fW, .int .i64 fH, .int .i64 reach, .int .i64 dark, .slice AL la.length ac, .slice FL lf.length fc, .slice RL lr.length rc] 26)
  have w1b : Bl w w1 := (Bl.refl w).alloc _
  have w11 : Blk w1 (w.heap.size) 26 #[.string ⟨nm.toArray⟩, .int .i64 fW, .int .i64 fH, .int .i64 reach, .int .i64 dark, .slice AL la.length ac, .slice FL lf.length fc, .slice RL lr.length rc] := by
    have h0 := Blk.new (w) 26 #[.string ⟨nm.toArray⟩, .int .i64 fW, .int .i64 fH, .int .i64 reach, .int .i64 dark, .slice AL la.length ac, .slice FL lf.length fc, .slice RL lr.length rc]
    exact h0
  have hfa := fun (n : List UInt8) wx (hF : FrmAt wx ⟨nm, fW, fH, reach, dark, AL, ac, la, FL, fc, lf, RL, rc, lr⟩) => fieldOf_any _ n wx hF
  unfold Frm.val at hfa
  have hL1 : VlusAt w1 L l := hL.bl w1b
  obtain ⟨ad, e1, j1, j2, j3, j4⟩ := hL1.at_ hv
  have HF := Lib.hid (hF.bl w1b); have Hfa := Lib.hid hfa; have HL := Lib.hid hL1; have HV := Lib.hid (hV.bl w1b)
  have k1 := w11.all8
  have hln2 : lf.length ≤ 9223372036854775807 := hF.fn.2
  have HW1b := Lib.hid w1b
  unfold Frm.val
  clear hF hL hV hVE hfa w1b hL1 hv htw
  subst e1
  go_enter Tryz.func41, Tryz.ntmps41
  go_upto_region 1 with fail
  rw [show w.alloc (.cells #[.string ⟨nm.toArray⟩, .int .i64 fW, .int .i64 fH, .int .i64 reach, .int .i64 dark, .slice AL la.length ac, .slice FL lf.length fc, .slice RL lr.length rc] 26) = w1 from rfl]
  clear_value w1
  go_upto_region 2 with fail
  obtain ⟨w2, hw2⟩ : ∃ y, y = w1.alloc (.cells #[.string ⟨v.field.toArray⟩, .string ⟨v.text.toArray⟩, .slice v.M v.marks.length v.mc, .int .i64 v.sure] 73) := ⟨_, rfl⟩
  have b2 : Blk w2 w1.heap.size 73 #[.string ⟨v.field.toArray⟩, .string ⟨v.text.toArray⟩, .slice v.M v.marks.length v.mc, .int .i64 v.sure] := by rw [hw2]; exact Blk.new _ _ _
  have hb2 : Bl w1 w2 := by rw [hw2]; exact (Bl.refl _).alloc _
  rw [← hw2]
  have k1 := (w11.bl hb2).all8
  have k2 := b2.all4
  have htwi := value_twice (some ad) c l i (by omega) w1.heap.size v w2 (HL.out.bl hb2) b2 hln
  rw [← Htw.out] at htwi
  have Htwi := Lib.hid htwi
  have B2 := Lib.hid b2; have Hb2 := Lib.hid hb2
  have hic : (i : Int) ≤ (c : Int) := by omega
  clear hw2 b2 hb2 htwi j1 j2 j3 j4
  go_wp2_with fail
  refine (Hfa.out v.field _ (HF.out.bl Hb2.out)).mono ?_
  rintro e w3 ⟨ix, rfl, hix, hb3⟩
  have Hb3 := Lib.hid hb3
  have k1 := (w11.bl (Hb2.out.trans hb3)).all8
  have k2 := (B2.out.bl hb3).all4
  have Hix := Lib.hid hix
  obtain ⟨E1, hE1⟩ : ∃ e, e = firstNZ [whenI (decide (ix < 0)) 10, whenI tw 6] := ⟨_, rfl⟩
  have HE1 := Lib.hid hE1
  clear hb3 hix hE1
  go_upto_region 3 with fail
  refine wp_region_flow [(true, 0), (true, 1), (true, 3), (true, 4), (true, 5), (true, 6), (false, 2), (false, 7), (false, 8), (false, 9), (false, 10), (true, 11)] (fun _ => false) (by kernel_rfl) (by kernel_rfl) (by kernel_rfl) (by kernel_rfl) ?_
  iterate 1
    apply Flow.mv _ rfl
    · intro K' hK'
      simp only [Act.put, Act.eval, List.setIfInBounds_toArray, List.set_cons_zero, List.set_cons_succ, arr_getD, List.getD_cons_zero, List.getD_cons_succ]
      exact hK'
  iterate 1
    apply Flow.calm2 _ _ rfl rfl
    · intro w' hb' K' hK'
      obtain ⟨hc', hf'⟩ := hb'.rule
      go_simp
      try go_ints
      exact hK'
    · intro K' hK'
      simp only [Act.put, List.setIfInBounds_toArray, List.set_cons_zero, List.set_cons_succ]
      exact hK'
  iterate 2
    apply Flow.mv _ rfl
    · intro K' hK'
      simp only [Act.put, Act.eval, List.setIfInBounds_toArray, List.set_cons_zero, List.set_cons_succ, arr_getD, List.getD_cons_zero, List.getD_cons_succ]
      exact hK'
  iterate 1
    apply Flow.calm2 _ _ rfl rfl
    · intro w' hb' K' hK'
      obtain ⟨hc', hf'⟩ := hb'.rule
      go_simp
      try go_ints
      exact hK'
    · intro K' hK'
      simp only [Act.put, List.setIfInBounds_toArray, List.set_cons_zero, List.set_cons_succ]
      exact hK'
  iterate 1
    apply Flow.calm2 _ _ rfl rfl
    · intro w' hb' K' hK'
      obtain ⟨hc', hf'⟩ := hb'.rule
      go_simp
      try go_ints
      exact hK'
    · intro K' hK'
      simp only [Act.put, List.setIfInBounds_toArray, List.set_cons_zero, List.set_cons_succ]
      exact hK'
  apply Flow.move rfl
  go_wp2_with fail
  refine (when_any _ _ _).mono ?_
  rintro e w' ⟨rfl, rfl⟩
  go_wp2_with fail
  refine ⟨fun _ => (by first | exact HB1 | exact Bl.refl _), ?_⟩
  apply Flow.move rfl
  go_wp2_with fail
  refine (Htwi.out _ Hb3.out.drew).mono ?_
  rintro e w4 ⟨rfl, HB2⟩
  have Hb4 := Lib.hid (Hb3.out.trans (Bl.ofDrew HB2))
  go_wp2_with fail
  refine ⟨fun _ => (by first | exact HB2 | exact Bl.refl _), ?_⟩
  apply Flow.move rfl
  go_wp2_with fail
  refine (when_any _ _ _).mono ?_
  rintro e w' ⟨rfl, rfl⟩
  go_wp2_with fail
  refine ⟨fun _ => (by first | exact HB3 | exact Bl.refl _), ?_⟩
  apply Flow.move rfl
  go_wp2_with fail
  first | refine ⟨fun _ => ?_, ?_⟩ | refine ⟨?_, ?_⟩
  · repeat' (first | exact Bl.refl _ | refine Bl.drewL ?_ | refine Bl.drew ?_ | refine Bl.alloc ?_ _)
  apply Flow.move rfl
  go_wp2_with fail
  refine (first2_any _ _ _ _ (Blk.new _ _ _)).mono ?_
  rintro e w' ⟨rfl, rfl⟩
  go_wp2_with fail
  refine ⟨fun _ => (by first | exact HB5 | exact Bl.refl _), ?_⟩
  iterate 1
    apply Flow.asg _ rfl
    · intro K' hK'
      simp only [Act.put, Act.eval, List.setIfInBounds_toArray, List.set_cons_zero, List.set_cons_succ, arr_getD, List.getD_cons_zero, List.getD_cons_succ]
      exact hK'
  refine Flow.done ?_
  rw [← HE1.out]
  obtain ⟨w5, hw5⟩ : ∃ y, y = w4.alloc (.cells #[.int .i64 (whenI (decide (ix < 0)) 10), .int .i64 (whenI tw 6)] 29) := ⟨_, rfl⟩
  have hb5 : Bl w4 w5 := by rw [hw5]; exact (Bl.refl _).alloc _
  rw [← hw5]
  have Hb5 := Lib.hid (Hb4.out.trans hb5)
  have k1 := (w11.bl (Hb2.out.trans Hb5.out)).all8
  have k2 := (B2.out.bl Hb5.out).all4
  clear hw5 hb5 HB2
  rcases firstG_fld Hix.out with ⟨h0, hk⟩ | ⟨j, x, rfl, hl, hk⟩
  · have hE : E1 = 10 := by rw [HE1.out, decide_eq_true h0]; rfl
    have HX := Lib.hid (show VE = 10 by rw [HVE.out]; unfold vluErr; rw [hk])
    subst hE
    clear hk h0
    go_wp2_with fail
    go_ret
    exact ⟨by rw [HX.out]; rfl, HW1b.out.trans (Hb2.out.trans Hb5.out)⟩
  have HVE1 := Lib.hid (show VE = firstNZ [whenI tw 6, whenI (wrongAll x v) 2, rangeE x v.marks] by rw [HVE.out]; unfold vluErr; rw [hk])
  have HLx := Lib.hid hl
  have hjl := (List.getElem?_eq_some_iff.1 hl).1
  have hxm : x.marks.length ≤ 9223372036854775807 := (HF.out.flds.2 x (List.mem_of_getElem? hl)).2.2.1
  have hE : E1 = whenI tw 6 := by rw [HE1.out, decide_eq_false (by omega), whenI_false, firstNZ_0, firstNZ_pair0]
  cases tw with
  | true =>
    have HX := Lib.hid (show VE = 6 by rw [HVE1.out]; rfl)
    obtain rfl : E1 = 6 := hE
    clear hl hk
    go_wp2_with fail
    go_ret
    exact ⟨by rw [HX.out]; rfl, HW1b.out.trans (Hb2.out.trans Hb5.out)⟩
  | false =>
  obtain rfl : E1 = 0 := hE
  have HVE2 := Lib.hid (show VE = firstNZ [whenI (wrongAll x v) 2, rangeE x v.marks] by rw [HVE1.out, whenI_false, firstNZ_0])
  obtain ⟨adF, e1, j1, j2, j3, j4, j5, j6, j7, j8, j9⟩ := FldsAt.at_ (HF.out.flds.bl (Hb2.out.trans Hb5.out)) hl
  simp only at e1
  subst e1
  clear hl hk
  go_upto_region 7 with fail
  obtain ⟨w6, hw6⟩ : ∃ y, y = w5.alloc (.cells #[.string ⟨x.name.toArray⟩, .int .i64 x.kind, .int .i64 x.box.X, .int .i64 x.box.Y, .int .i64 x.box.W, .int .i64 x.box.H, .slice x.M x.marks.length x.mc, .int .i64 x.most, .bool x.needed] 82) := ⟨_, rfl⟩
  have b6 : Blk w6 w5.heap.size 82 #[.string ⟨x.name.toArray⟩, .int .i64 x.kind, .int .i64 x.box.X, .int .i64 x.box.Y, .int .i64 x.box.W, .int .i64 x.box.H, .slice x.M x.marks.length x.mc, .int .i64 x.most, .bool x.needed] := by rw [hw6]; exact Blk.new _ _ _
  have hb6 : Bl w5 w6 := by rw [hw6]; exact (Bl.refl _).alloc _
  rw [← hw6]
  have B6 := Lib.hid b6; have Hb6 := Lib.hid (Hb5.out.trans hb6); have BV := Lib.hid (B2.out.bl (Hb5.out.trans hb6))
  have k2 := BV.out.all4
  have k3 := b6.all9
  have k1 := (w11.bl (Hb2.out.trans Hb6.out)).all8
  obtain ⟨mk, hmk⟩ : ∃ b, b = marksB x.kind := ⟨_, rfl⟩
  obtain ⟨te, hte⟩ : ∃ b, b = v.text.isEmpty := ⟨_, rfl⟩
  have Hmk := Lib.hid hmk.symm; have Hte := Lib.hid hte.symm
  have hte2 := hte.symm
  have hmr := fun wx => marksR_any x.kind wx
  rw [← hmk] at hmr
  have Hmr := Lib.hid hmr
  have HV6 := Lib.hid (HV.out.bl (Hb2.out.trans Hb6.out))
  clear hw6 b6 hb6 j1 j2 j3 j4 j5 j6 j7 j8 j9 hmr hmk hte
  go_cut [13] from 45 to 84 (fun s wc => s = .bool (wrongV x v) ∧ w6 = wc)
  case first =>
    cases mk with
    | true =>
      cases te with
      | false =>
        have HX := Lib.hid (show wrongV x v = true by unfold wrongV; rw [Hmk.out, Hte.out]; simp [*])
        try clear c3
        go_wp2_with (go_at_call 82; refine (Hmr.out _).mono ?_; rintro e w' ⟨rfl, rfl⟩)
        go_meet
        case rel => exact ⟨by rw [HX.out] <;> first | rfl | exact congrArg Value.bool (decide_eq_false (by omega)) | exact congrArg Value.bool (decide_eq_true (by omega)), rfl⟩
      | true =>
        by_cases c3 : x.kind = 3
        · have q3 : (x.kind == 3) = true := by simpa using c3
          by_cases cl : 1 < v.marks.length
          · have cli : 1 < (v.marks.length : Int) := by omega
            have HX := Lib.hid (show wrongV x v = true by unfold wrongV; rw [Hmk.out, Hte.out]; simp [*])
            try clear c3
            go_wp2_with (go_at_call 82; refine (Hmr.out _).mono ?_; rintro e w' ⟨rfl, rfl⟩)
            go_meet
            case rel => exact ⟨by rw [HX.out] <;> first | rfl | exact congrArg Value.bool (decide_eq_false (by omega)) | exact congrArg Value.bool (decide_eq_true (by omega)), rfl⟩
          · have cli : ¬ 1 < (v.marks.length : Int) := by omega
            have HX := Lib.hid (show wrongV x v = false by unfold wrongV; rw [Hmk.out, Hte.out]; simp [*])
            try clear c3
            go_wp2_with (go_at_call 82; refine (Hmr.out _).mono ?_; rintro e w' ⟨rfl, rfl⟩)
            go_meet
            case rel => exact ⟨by rw [HX.out] <;> first | rfl | exact congrArg Value.bool (decide_eq_false (by omega)) | exact congrArg Value.bool (decide_eq_true (by omega)), rfl⟩
        · have q3 : (x.kind == 3) = false := by simpa using c3
          have HX := Lib.hid (show wrongV x v = false by unfold wrongV; rw [Hmk.out, Hte.out]; simp [*])
          try clear c3
          go_wp2_with (go_at_call 82; refine (Hmr.out _).mono ?_; rintro e w' ⟨rfl, rfl⟩)
          go_meet
          case rel => exact ⟨by rw [HX.out] <;> first | rfl | exact congrArg Value.bool (decide_eq_false (by omega)) | exact congrArg Value.bool (decide_eq_true (by omega)), rfl⟩
    | false =>
      by_cases cl : 0 < v.marks.length
      · have cli : 0 < (v.marks.length : Int) := by omega
        have HX := Lib.hid (show wrongV x v = true by unfold wrongV; rw [Hmk.out, Hte.out]; simp [*])
        try clear c3
        go_wp2_with (go_at_call 82; refine (Hmr.out _).mono ?_; rintro e w' ⟨rfl, rfl⟩)
        go_meet
        case rel => exact ⟨by rw [HX.out] <;> first | rfl | exact congrArg Value.bool (decide_eq_false (by omega)) | exact congrArg Value.bool (decide_eq_true (by omega)), rfl⟩
      · have cli : ¬ 0 < (v.marks.length : Int) := by omega
        have q3 : (x.kind == 3) = false := by
          have h := Hmk.out
          unfold marksB at h
          simp at h
          simpa using h.1
        have c3 : ¬ x.kind = 3 := by simpa using q3
        have cl1 : ¬ 1 < v.marks.length := by omega
        have HX := Lib.hid (show wrongV x v = false by unfold wrongV; rw [Hmk.out, Hte.out]; simp [*])
        try clear c3
        go_wp2_with (go_at_call 82; refine (Hmr.out _).mono ?_; rintro e w' ⟨rfl, rfl⟩)
        go_meet
        case rel => exact ⟨by rw [HX.out] <;> first | rfl | exact congrArg Value.bool (decide_eq_false (by omega)) | exact congrArg Value.bool (decide_eq_true (by omega)), rfl⟩
  case rest =>
  rename World => wz
  obtain ⟨rfl, rfl⟩ := hcut
  obtain ⟨wv, hwv⟩ : ∃ b, b = wrongV x v := ⟨_, rfl⟩
  rw [← hwv]
  have Hwv := Lib.hid hwv
  clear hwv
  go_wp2_with fail
  go_loopw [13, 14] (fun b u wr => ∃ j : Nat, 1 ≤ j ∧ Hid (j ≤ max 1 v.marks.length) ∧ u = .int .i64 j ∧ b = .bool (wrongTo wv v.marks j) ∧ Bl w6 wr) (fun _ u _ => v.marks.length - (RowKit.intOf u).toNat)
  case atStart => exact ⟨1, Nat.le_refl _, Lib.hid (Nat.le_max_left _ _), rfl, by rw [wrongTo_one], Bl.refl _⟩
  case round =>
    clear k1 k2 k3
    rename World => wr
    obtain ⟨j, hj1, hj2, rfl, rfl, hbr⟩ := hrel
    have k2 := (BV.out.bl hbr).all4
    by_cases hlt : j < v.marks.length
    · have hst := wrongTo_succ wv v.marks hj1
      obtain ⟨wj, hwj⟩ : ∃ b, b = wrongTo wv v.marks j := ⟨_, rfl⟩
      rw [← hwj] at hst ⊢
      cases wj with
      | true =>
        have HX := Lib.hid (show wrongTo wv v.marks (j + 1) = true by rw [hst]; rfl)
        have Hbr := Lib.hid hbr
        clear hst hwj hbr
        go_upto_region 11 with fail
        refine wp_region_flow [(true, 0), (true, 1), (true, 2), (true, 3), (true, 4), (true, 5), (true, 6), (true, 7), (true, 8), (true, 9), (true, 10), (true, 11), (true, 12), (true, 13), (true, 14), (true, 15)] (fun _ => false) (by kernel_rfl) (by kernel_rfl) (by kernel_rfl) (by kernel_rfl) ?_
        iterate 2
          apply Flow.mv _ rfl
          · intro K' hK'
            simp only [Act.put, Act.eval, List.setIfInBounds_toArray, List.set_cons_zero, List.set_cons_succ, arr_getD, List.getD_cons_zero, List.getD_cons_succ]
            exact hK'
        first
          | (apply Flow.pass rfl (by rfl))
          | (apply Flow.calmG _ rfl (by rfl)
             · intro w' hb'
               obtain ⟨hc', hf'⟩ := hb'.rule
               go_simp
               all_goals (try rfl))
        simp only [Act.put, List.setIfInBounds_toArray, List.set_cons_zero, List.set_cons_succ]
        try go_ints
        first
          | (apply Flow.pass rfl (by rfl))
          | (apply Flow.calmG _ rfl (by rfl)
             · intro w' hb'
               obtain ⟨hc', hf'⟩ := hb'.rule
               go_simp
               all_goals (try rfl))
        simp only [Act.put, List.setIfInBounds_toArray, List.set_cons_zero, List.set_cons_succ]
        try go_ints
        first
          | (apply Flow.pass rfl (by rfl))
          | (apply Flow.calmG _ rfl (by rfl)
             · intro w' hb'
               obtain ⟨hc', hf'⟩ := hb'.rule
               go_simp
               all_goals (try rfl))
        simp only [Act.put, List.setIfInBounds_toArray, List.set_cons_zero, List.set_cons_succ]
        try go_ints
        first
          | (apply Flow.pass rfl (by rfl))
          | (apply Flow.calmG _ rfl (by rfl)
             · intro w' hb'
               obtain ⟨hc', hf'⟩ := hb'.rule
               go_simp
               all_goals (try rfl))
        simp only [Act.put, List.setIfInBounds_toArray, List.set_cons_zero, List.set_cons_succ]
        try go_ints
        first
          | (apply Flow.pass rfl (by rfl))
          | (apply Flow.calmG _ rfl (by rfl)
             · intro w' hb'
               obtain ⟨hc', hf'⟩ := hb'.rule
               go_simp
               all_goals (try rfl))
        simp only [Act.put, List.setIfInBounds_toArray, List.set_cons_zero, List.set_cons_succ]
        try go_ints
        first
          | (apply Flow.pass rfl (by rfl))
          | (apply Flow.calmG _ rfl (by rfl)
             · intro w' hb'
               obtain ⟨hc', hf'⟩ := hb'.rule
               go_simp
               all_goals (try rfl))
        simp only [Act.put, List.setIfInBounds_toArray, List.set_cons_zero, List.set_cons_succ]
        try go_ints
        first
          | (apply Flow.pass rfl (by rfl))
          | (apply Flow.calmG _ rfl (by rfl)
             · intro w' hb'
               obtain ⟨hc', hf'⟩ := hb'.rule
               go_simp
               all_goals (try rfl))
        simp only [Act.put, List.setIfInBounds_toArray, List.set_cons_zero, List.set_cons_succ]
        try go_ints
        first
          | (apply Flow.pass rfl (by rfl))
          | (apply Flow.calmG _ rfl (by rfl)
             · intro w' hb'
               obtain ⟨hc', hf'⟩ := hb'.rule
               go_simp
               all_goals (try rfl))
        simp only [Act.put, List.setIfInBounds_toArray, List.set_cons_zero, List.set_cons_succ]
        try go_ints
        first
          | (apply Flow.pass rfl (by rfl))
          | (apply Flow.calmG _ rfl (by rfl)
             · intro w' hb'
               obtain ⟨hc', hf'⟩ := hb'.rule
               go_simp
               all_goals (try rfl))
        simp only [Act.put, List.setIfInBounds_toArray, List.set_cons_zero, List.set_cons_succ]
        try go_ints
        first
          | (apply Flow.pass rfl (by rfl))
          | (apply Flow.calmG _ rfl (by rfl)
             · intro w' hb'
               obtain ⟨hc', hf'⟩ := hb'.rule
               go_simp
               all_goals (try rfl))
        simp only [Act.put, List.setIfInBounds_toArray, List.set_cons_zero, List.set_cons_succ]
        try go_ints
        first
          | (apply Flow.pass rfl (by rfl))
          | (apply Flow.calmG _ rfl (by rfl)
             · intro w' hb'
               obtain ⟨hc', hf'⟩ := hb'.rule
               go_simp
               all_goals (try rfl))
        simp only [Act.put, List.setIfInBounds_toArray, List.set_cons_zero, List.set_cons_succ]
        try go_ints
        first
          | (apply Flow.pass rfl (by rfl))
          | (apply Flow.calmG _ rfl (by rfl)
             · intro w' hb'
               obtain ⟨hc', hf'⟩ := hb'.rule
               go_simp
               all_goals (try rfl))
        simp only [Act.put, List.setIfInBounds_toArray, List.set_cons_zero, List.set_cons_succ]
        try go_ints
        iterate 1
          apply Flow.calm2 _ _ rfl rfl
          · intro w' hb' K' hK'
            obtain ⟨hc', hf'⟩ := hb'.rule
            go_simp
            try go_ints
            exact hK'
          · intro K' hK'
            simp only [Act.put, List.setIfInBounds_toArray, List.set_cons_zero, List.set_cons_succ]
            exact hK'
        iterate 1
          apply Flow.asg _ rfl
          · intro K' hK'
            simp only [Act.put, Act.eval, List.setIfInBounds_toArray, List.set_cons_zero, List.set_cons_succ, arr_getD, List.getD_cons_zero, List.getD_cons_succ]
            exact hK'
        refine Flow.done ?_
        go_wp2_with fail
        exact ⟨⟨j + 1, by omega, Lib.hid (by omega), by go_num, by rw [HX.out], Hbr.out.drew⟩, by simp [RowKit.intOf]; omega⟩
      | false =>
        obtain ⟨ad, u1, eA, hu, hc1⟩ := (HV6.out.bl hbr).at_ hlt
        obtain ⟨ad', u2, eA', hu', hc2⟩ := (HV6.out.bl hbr).at_ (show j - 1 < v.marks.length by omega)
        rw [eA] at eA'
        obtain rfl := Option.some.inj eA'
        have hu1 : u1 = .int .i64 (v.marks.getD j 0) := by
          simp only [List.getElem?_map, Option.map_eq_some_iff] at hu
          obtain ⟨b, hb1, hb2⟩ := hu
          rw [← hb2, List.getD, hb1]; rfl
        have hu2 : u2 = .int .i64 (v.marks.getD (j - 1) 0) := by
          simp only [List.getElem?_map, Option.map_eq_some_iff] at hu'
          obtain ⟨b, hb1, hb2⟩ := hu'
          rw [← hb2, List.getD, hb1]; rfl
        clear hu hu'
        subst hu1 hu2
        obtain ⟨p1, hp1⟩ : ∃ z, z = v.marks.getD j 0 := ⟨_, rfl⟩
        obtain ⟨p2, hp2⟩ : ∃ z, z = v.marks.getD (j - 1) 0 := ⟨_, rfl⟩
        rw [← hp1, ← hp2, Bool.false_or] at hst
        rw [← hp1] at hc1
        rw [← hp2] at hc2
        have ej : ((j : Int) - 1) = ((j - 1 : Nat) : Int) := by omega
        have Hst := Lib.hid hst; have Hbr := Lib.hid hbr
        obtain ⟨jm, hjm⟩ : ∃ z, z = j - 1 := ⟨_, rfl⟩
        rw [← hjm] at hc2 ej
        have hjl : (jm : Int) < (v.marks.length : Int) := by omega
        rw [eA] at k2
        clear hp1 hp2 hst hbr hwj eA hjm
        go_upto_region 11 with fail
        refine wp_region_flow [(true, 0), (true, 1), (true, 2), (true, 3), (true, 4), (true, 5), (true, 6), (true, 7), (true, 8), (true, 9), (true, 10), (true, 11), (true, 12), (true, 13), (true, 14), (true, 15)] (fun _ => false) (by kernel_rfl) (by kernel_rfl) (by kernel_rfl) (by kernel_rfl) ?_
        iterate 2
          apply Flow.mv _ rfl
          · intro K' hK'
            simp only [Act.put, Act.eval, List.setIfInBounds_toArray, List.set_cons_zero, List.set_cons_succ, arr_getD, List.getD_cons_zero, List.getD_cons_succ]
            exact hK'
        first
          | (apply Flow.pass rfl (by rfl))
          | (apply Flow.calmG _ rfl (by rfl)
             · intro w' hb'
               obtain ⟨hc', hf'⟩ := hb'.rule
               go_simp
               all_goals (try rfl))
        simp only [Act.put, List.setIfInBounds_toArray, List.set_cons_zero, List.set_cons_succ]
        try go_ints
        first
          | (apply Flow.pass rfl (by rfl))
          | (apply Flow.calmG _ rfl (by rfl)
             · intro w' hb'
               obtain ⟨hc', hf'⟩ := hb'.rule
               go_simp
               all_goals (try rfl))
        simp only [Act.put, List.setIfInBounds_toArray, List.set_cons_zero, List.set_cons_succ]
        try go_ints
        first
          | (apply Flow.pass rfl (by rfl))
          | (apply Flow.calmG _ rfl (by rfl)
             · intro w' hb'
               obtain ⟨hc', hf'⟩ := hb'.rule
               go_simp
               all_goals (try rfl))
        simp only [Act.put, List.setIfInBounds_toArray, List.set_cons_zero, List.set_cons_succ]
        try go_ints
        first
          | (apply Flow.pass rfl (by rfl))
          | (apply Flow.calmG _ rfl (by rfl)
             · intro w' hb'
               obtain ⟨hc', hf'⟩ := hb'.rule
               go_simp
               all_goals (try rfl))
        simp only [Act.put, List.setIfInBounds_toArray, List.set_cons_zero, List.set_cons_succ]
        try go_ints
        first
          | (apply Flow.pass rfl (by rfl))
          | (apply Flow.calmG _ rfl (by rfl)
             · intro w' hb'
               obtain ⟨hc', hf'⟩ := hb'.rule
               go_simp
               all_goals (try rfl))
        simp only [Act.put, List.setIfInBounds_toArray, List.set_cons_zero, List.set_cons_succ]
        try go_ints
        first
          | (apply Flow.pass rfl (by rfl))
          | (apply Flow.calmG _ rfl (by rfl)
             · intro w' hb'
               obtain ⟨hc', hf'⟩ := hb'.rule
               go_simp
               all_goals (try rfl))
        simp only [Act.put, List.setIfInBounds_toArray, List.set_cons_zero, List.set_cons_succ]
        try go_ints
        first
          | (apply Flow.pass rfl (by rfl))
          | (apply Flow.calmG _ rfl (by rfl)
             · intro w' hb'
               obtain ⟨hc', hf'⟩ := hb'.rule
               go_simp
               all_goals (try rfl))
        simp only [Act.put, List.setIfInBounds_toArray, List.set_cons_zero, List.set_cons_succ]
        try go_ints
        first
          | (apply Flow.pass rfl (by rfl))
          | (apply Flow.calmG _ rfl (by rfl)
             · intro w' hb'
               obtain ⟨hc', hf'⟩ := hb'.rule
               go_simp
               all_goals (try rfl))
        simp only [Act.put, List.setIfInBounds_toArray, List.set_cons_zero, List.set_cons_succ]
        try go_ints
        first
          | (apply Flow.pass rfl (by rfl))
          | (apply Flow.calmG _ rfl (by rfl)
             · intro w' hb'
               obtain ⟨hc', hf'⟩ := hb'.rule
               go_simp
               all_goals (try rfl))
        simp only [Act.put, List.setIfInBounds_toArray, List.set_cons_zero, List.set_cons_succ]
        try go_ints
        first
          | (apply Flow.pass rfl (by rfl))
          | (apply Flow.calmG _ rfl (by rfl)
             · intro w' hb'
               obtain ⟨hc', hf'⟩ := hb'.rule
               go_simp
               all_goals (try rfl))
        simp only [Act.put, List.setIfInBounds_toArray, List.set_cons_zero, List.set_cons_succ]
        try go_ints
        first
          | (apply Flow.pass rfl (by rfl))
          | (apply Flow.calmG _ rfl (by rfl)
             · intro w' hb'
               obtain ⟨hc', hf'⟩ := hb'.rule
               go_simp
               all_goals (try rfl))
        simp only [Act.put, List.setIfInBounds_toArray, List.set_cons_zero, List.set_cons_succ]
        try go_ints
        first
          | (apply Flow.pass rfl (by rfl))
          | (apply Flow.calmG _ rfl (by rfl)
             · intro w' hb'
               obtain ⟨hc', hf'⟩ := hb'.rule
               go_simp
               all_goals (try rfl))
        simp only [Act.put, List.setIfInBounds_toArray, List.set_cons_zero, List.set_cons_succ]
        try go_ints
        iterate 1
          apply Flow.calm2 _ _ rfl rfl
          · intro w' hb' K' hK'
            obtain ⟨hc', hf'⟩ := hb'.rule
            go_simp
            try go_ints
            exact hK'
          · intro K' hK'
            simp only [Act.put, List.setIfInBounds_toArray, List.set_cons_zero, List.set_cons_succ]
            exact hK'
        iterate 1
          apply Flow.asg _ rfl
          · intro K' hK'
            simp only [Act.put, Act.eval, List.setIfInBounds_toArray, List.set_cons_zero, List.set_cons_succ, arr_getD, List.getD_cons_zero, List.getD_cons_succ]
            exact hK'
        refine Flow.done ?_
        go_wp2_with fail
        exact ⟨⟨j + 1, by omega, Lib.hid (by omega), by go_num, by rw [Hst.out], Hbr.out.drew⟩, by simp [RowKit.intOf]; omega⟩
    · have hje : j = max 1 v.marks.length := by have := hj2.out; omega
      obtain ⟨wj, hwj⟩ : ∃ b, b = wrongTo wv v.marks j := ⟨_, rfl⟩
      rw [← hwj]
      have HVE3 := Lib.hid (show VE = rangeTo (whenI wj 2) x v.marks by rw [HVE2.out, hwj, Hwv.out, hje]; rfl)
      have Hr0 := Lib.hid (show whenI wj 2 = rangeTo (whenI wj 2) x (v.marks.take 0) by
        unfold rangeTo rangeE
        simp only [List.take_zero, List.any_nil, whenI_false]
        rw [firstNZ_pair]
        split
        · rename_i h; exact h
        · rfl)
      have Hbr := Lib.hid hbr
      have k3 := (B6.out.bl hbr).all9
      obtain ⟨e0, he0⟩ : ∃ e, e = whenI wj 2 := ⟨_, rfl⟩
      rw [← he0] at HVE3 Hr0
      have He0 := Lib.hid he0
      clear hje hwj hbr he0 hj2
      go_upto_region 13 with (go_at_call 30; refine (when_any _ _ _).mono ?_; rintro e w' ⟨rfl, rfl⟩)
      rw [← He0.out]
      go_wp2_with fail
      go_loopw [15, 111] (fun p u wy => ∃ i : Nat, i ≤ v.marks.length ∧ u = .int .i64 i ∧ p = .int .i64 (rangeTo e0 x (v.marks.take i)) ∧ Bl w6 wy) (fun _ u _ => v.marks.length - (RowKit.intOf u).toNat)
      case atStart => exact ⟨0, Nat.zero_le _, rfl, by rw [← Hr0.out], Hbr.out⟩
      case round =>
        clear k2 k3
        rename World => wy
        obtain ⟨i, hi, rfl, rfl, hby⟩ := hrel
        have k2 := (BV.out.bl hby).all4
        have k3 := (B6.out.bl hby).all9
        by_cases hli : i < v.marks.length
        · have hg : v.marks[i]? = some v.marks[i] := List.getElem?_eq_getElem hli
          obtain ⟨m, hm⟩ : ∃ z, z = v.marks[i] := ⟨_, rfl⟩
          rw [← hm] at hg
          obtain ⟨ad, u1, eA, hu, hc1⟩ := (HV6.out.bl hby).at_ hli
          have hu1 : u1 = .int .i64 m := by
            rw [List.getElem?_map, hg] at hu
            exact (Option.some.inj hu).symm
          subst hu1
          have hst := rangeTo_snoc e0 x (v.marks.take i) m
          rw [← take_snoc hg] at hst
          obtain ⟨PE, hPE⟩ : ∃ e, e = rangeTo e0 x (v.marks.take i) := ⟨_, rfl⟩
          rw [← hPE] at hst ⊢
          have Hst := Lib.hid hst; have Hby := Lib.hid hby
          clear hg hm hu hby hst hPE
          rw [eA]
          go_upto_region 16 with fail
          rw [← eA]
          go_wp2_with (first | (go_at_call 33; refine (in_any _ _ _ _).mono ?_; rintro e w' ⟨rfl, rfl⟩) | (go_at_call 30; refine (when_any _ _ _).mono ?_; rintro e w' ⟨rfl, rfl⟩) | (go_at_call 29; refine (first2_any _ _ _ _ (Blk.new _ _ _)).mono ?_; rintro e w' ⟨rfl, rfl⟩))
          exact ⟨⟨i + 1, hli, by go_num, by rw [← Hst.out] <;> rfl, Hby.out.alloc _⟩, by simp [RowKit.intOf]; omega⟩
        · obtain rfl : i = v.marks.length := by omega
          have HX := Lib.hid (show rangeTo e0 x (v.marks.take v.marks.length) = VE by rw [List.take_length, HVE3.out])
          rw [HX.out]
          go_wp2_with fail
          go_ret
          exact ⟨rfl, HW1b.out.trans (Hb2.out.trans (Hb6.out.trans hby))⟩
set_option maxRecDepth 100000 in
set_option maxHeartbeats 4000000 in
theorem valuesError_any (f : Frm) (L : Option Addr) (c : Nat) (l : List Vlu) (w : World) (hF : FrmAt w f) (hL : VlusAt w L l) (hlc : l.length ≤ c) (hln : l.length ≤ 9223372036854775807) :
    Calls Tryz.prog 7 #[f.val, .slice L l.length c, .bool false] w fun e w' => e = .returned (.int .i64 (vlusErr f.lf [] l)) ∧ Bl w w' := by
  obtain ⟨nm, fW, fH, reach, dark, AL, ac, la, FL, fc, lf, RL, rc, lr⟩ := f
  obtain ⟨VE, hVE⟩ : ∃ y, y = vlusErr lf [] l := ⟨_, rfl⟩
  show Calls _ _ _ w fun e w' => e = .returned (.int .i64 (vlusErr lf [] l)) ∧ Bl w w'
  rw [← hVE]
  have HVE := Lib.hid hVE
  let w1 := (w).alloc (.cells #[.string ⟨nm.toArray⟩, .int .i64 fW, .int .i64 fH, .int .i64 reach, .int .i64 dark, .slice AL la.length ac, .slice FL lf.length fc, .slice RL lr.length rc] 26)
  have w1b : Bl w w1 := (Bl.refl w).alloc _
  have w11 : Blk w1 (w.heap.size) 26 #[.string ⟨nm.toArray⟩, .int .i64 fW, .int .i64 fH, .int .i64 reach, .int .i64 dark, .slice AL la.length ac, .slice FL lf.length fc, .slice RL lr.length rc] := by
    have h0 := Blk.new (w) 26 #[.string ⟨nm.toArray⟩, .int .i64 fW, .int .i64 fH, .int .i64 reach, .int .i64 dark, .slice AL la.length ac, .slice FL lf.length fc, .slice RL lr.length rc]
    exact h0
  have hve := fun (i : Nat) (v : Vlu) wx (hF : FrmAt wx ⟨nm, fW, fH, reach, dark, AL, ac, la, FL, fc, lf, RL, rc, lr⟩) hL hv => valueError_any _ L c l i v wx hF hL hlc hln hv
  unfold Frm.val at hve
  have HF := Lib.hid (hF.bl w1b); have HL := Lib.hid (hL.bl w1b); have Hve := Lib.hid hve
  have k1 := w11.all8
  have HW1b := Lib.hid w1b
  unfold Frm.val
  clear hF hL hVE hve w1b
  go_enter Tryz.func7, Tryz.ntmps7
  go_upto_region 1 with fail
  rw [show w.alloc (.cells #[.string ⟨nm.toArray⟩, .int .i64 fW, .int .i64 fH, .int .i64 reach, .int .i64 dark, .slice AL la.length ac, .slice FL lf.length fc, .slice RL lr.length rc] 26) = w1 from rfl]
  clear_value w1
  go_wp2_with fail
  go_loopw [11] (fun u wr => ∃ i : Nat, i ≤ l.length ∧ u = .int .i64 i ∧ Bl w1 wr ∧ vlusErr lf ((l.take i).map Vlu.field) (l.drop i) = vlusErr lf [] l) (fun u _ => l.length - (RowKit.intOf u).toNat)
  case atStart => exact ⟨0, Nat.zero_le _, rfl, Bl.refl _, rfl⟩
  case round =>
    clear k1
    obtain ⟨i, hi, rfl, hbr, hes⟩ := hrel
    have k1 := (w11.bl hbr).all8
    by_cases hlt : i < l.length
    · have hg : l[i]? = some l[i] := List.getElem?_eq_getElem hlt
      obtain ⟨v, hv⟩ : ∃ x, x = l[i] := ⟨_, rfl⟩
      rw [← hv] at hg
      obtain ⟨FE, hFE⟩ : ∃ e, e = vluErr lf (decide (v.field ∈ (l.take i).map Vlu.field)) v := ⟨_, rfl⟩
      have hst : vlusErr lf [] l = if FE = 0 then vlusErr lf ((l.take (i + 1)).map Vlu.field) (l.drop (i + 1)) else FE := by rw [← hes, vlusErr_from hg, hFE]
      have hcall := Hve.out i v wr (HF.out.bl hbr) (HL.out.bl hbr) hg
      rw [← hFE] at hcall
      have Hcall := Lib.hid hcall; have Hst := Lib.hid hst; have Hbr := Lib.hid hbr
      clear hg hv hes hbr hFE hst hcall
      go_wp2_with fail
      refine Hcall.out.mono ?_
      rintro e w2 ⟨rfl, hb2⟩
      have Hb2 := Lib.hid (Hbr.out.trans hb2)
      clear hb2 k1
      by_cases hz : FE = 0
      · have hq : (FE != 0) = false := by simp [hz]
        have HX := Lib.hid (show vlusErr lf ((l.take (i + 1)).map Vlu.field) (l.drop (i + 1)) = vlusErr lf [] l by rw [Hst.out, if_pos hz])
        clear hz
        go_wp2_with fail
        exact ⟨⟨i + 1, hlt, by go_num, Hb2.out, HX.out⟩, by simp [RowKit.intOf]; omega⟩
      · have hq : (FE != 0) = true := by simp [hz]
        have HX := Lib.hid (show VE = FE by rw [HVE.out, Hst.out, if_neg hz])
        clear hz
        go_wp2_with fail
        go_ret
        exact ⟨by rw [HX.out]; rfl, HW1b.out.trans Hb2.out⟩
    · obtain rfl : i = l.length := by omega
      have HX := Lib.hid (show VE = 0 by rw [HVE.out, ← hes, List.drop_length]; rfl)
      go_wp2_with fail
      go_ret
      exact ⟨by rw [HX.out]; rfl, HW1b.out.trans hbr⟩
end Go.Proofs.YtahfkahfaiidgaaGreatDoor


/-! A map of values by their fields, as forms.Rules keeps it. -/
namespace Go.Proofs.YtahfkahfaiidgaaGreatDoor
open Go.RowKit Go.Shelf

def noVlu : Vlu := ⟨[], [], none, 0, [], 0⟩
/-- The value of a field, and no value where there is none. -/
def vluOf (vs : List Vlu) (s : List UInt8) : Vlu := (vs.find? (isField s)).getD noVlu
/-- The map at b has these values, each by its field. -/
def MapV (w : World) (b : Nat) (vs : List Vlu) : Prop := ∃ es clock, w.heap[b]? = some (.map es clock) ∧ (∀ x ∈ es.toList, ∃ s v, x.key = .string ⟨List.toArray s⟩ ∧ vs.find? (isField s) = some v ∧ x.val = v.val) ∧ ∀ v ∈ vs, ∃ x ∈ es.toList, x.key = .string ⟨v.field.toArray⟩
theorem MapV.new (w : World) : MapV (w.alloc (.map #[] 0)) w.heap.size [] := ⟨#[], 0, (MapKept.heap_alloc w _).1, by simp, by simp⟩
theorem MapV.bl {w w' : World} {b : Nat} {vs : List Vlu} (h : MapV w b vs) (hb : Bl w w') : MapV w' b vs := by
  obtain ⟨es, c, h1, h2, h3⟩ := h
  exact ⟨es, c, (Below.block hb b (Array.getElem?_eq_some_iff.1 h1).1).trans h1, h2, h3⟩
theorem MapV.same {w w' : World} {b : Nat} {vs : List Vlu} (h : MapV w b vs) (hb : w'.heap[b]? = w.heap[b]?) : MapV w' b vs := by
  obtain ⟨es, c, h1, h2, h3⟩ := h
  exact ⟨es, c, hb.trans h1, h2, h3⟩
theorem MapV.lookup {w : World} {b : Nat} {vs : List Vlu} (h : MapV w b vs) (s : List UInt8) : (Instr.lookup 70 (.map (some b)) (.string ⟨s.toArray⟩) false).run Tryz.prog w = .ok (vluOf vs s).val w := by
  obtain ⟨es, c, h1, h2, h3⟩ := h
  have hk : MapKept.IsKey .string (.string ⟨s.toArray⟩) := trivial
  have hks : ∀ x ∈ es.toList, MapKept.IsKey .string x.key := fun x hx => by obtain ⟨t, v, e, _⟩ := h2 x hx; rw [e]; trivial
  rcases MapKept.findNow_spec hk es.toList 0 hks with ⟨hf, hno⟩ | ⟨j, e, hf, hj, he⟩
  · have hn : vs.find? (isField s) = none := by
      rw [List.find?_eq_none]
      intro v hv hp
      obtain ⟨x, hx, e⟩ := h3 v hv
      rw [of_decide_eq_true hp] at e
      exact hno x hx e
    have hz : (vluOf vs s).val = .agg #[.string ⟨#[]⟩, .string ⟨#[]⟩, .slice none 0 0, .int .i64 0] := by unfold vluOf; rw [hn]; rfl
    rw [hz]
    simp [Instr.lookup, run_underlying Tryz.underlying70, MapKept.run_getObj_map h1, MapKept.run_checkKey Tryz.underlying9 hk, MapKept.run_findKey Tryz.underlying9 hf, Tryz.zeroValue73, Result.andThen]
  · obtain ⟨t, v, e1, hv, e2⟩ := h2 e (List.mem_of_getElem? hj)
    obtain rfl : s = t := string_inj (he.symm.trans e1)
    have hz : (vluOf vs s).val = v.val := by unfold vluOf; rw [hv]; rfl
    rw [hz]
    simp [Instr.lookup, run_underlying Tryz.underlying70, MapKept.run_getObj_map h1, MapKept.run_checkKey Tryz.underlying9 hk, MapKept.run_findKey Tryz.underlying9 hf, e2, Result.andThen]
theorem MapV.update {w : World} {b : Nat} {vs : List Vlu} (h : MapV w b vs) (v : Vlu) (hnew : v.field ∉ vs.map Vlu.field) : ∃ w', (Instr.mapUpdate 70 (.map (some b)) (.string ⟨v.field.toArray⟩) v.val).run Tryz.prog w = .ok () w' ∧ MapV w' b (vs ++ [v]) ∧ (∀ w0, Bl w0 w → w0.heap.size ≤ b → Bl w0 w') ∧ ∀ k, k ≠ b → w'.heap[k]? = w.heap[k]? := by
  obtain ⟨es, c, h1, h2, h3⟩ := h
  have hk : MapKept.IsKey .string (.string ⟨v.field.toArray⟩) := trivial
  have hks : ∀ x ∈ es.toList, MapKept.IsKey .string x.key := fun x hx => by obtain ⟨t, u, e, _⟩ := h2 x hx; rw [e]; trivial
  have hno0 : vs.find? (isField v.field) = none := by
    rw [List.find?_eq_none]
    intro u hu hp
    exact hnew (List.mem_map.2 ⟨u, hu, of_decide_eq_true hp⟩)
  rcases MapKept.findNow_spec hk es.toList 0 hks with ⟨hf, hno⟩ | ⟨j, e, hf, hj, he⟩
  · refine ⟨{ w with heap := w.heap.setIfInBounds b (.map (es.push ⟨.string ⟨v.field.toArray⟩, v.val, c⟩) (c + 1)) }, ?_, ⟨_, _, (MapKept.heap_set h1).1, ?_, ?_⟩, fun w0 h0 hb => bl_set h0 hb _, fun k hk => ?_⟩
    · simp [Instr.mapUpdate, run_underlying Tryz.underlying70, MapKept.run_getObj_map h1, MapKept.run_checkKey Tryz.underlying9 hk, MapKept.run_findKey Tryz.underlying9 hf, MapKept.run_setObj_map _ h1, Result.andThen]
    · intro x hx
      simp only [Array.toList_push, List.mem_append, List.mem_singleton] at hx
      rcases hx with hx | rfl
      · obtain ⟨t, u, e, hu, e2⟩ := h2 x hx
        exact ⟨t, u, e, by rw [List.find?_append, hu]; rfl, e2⟩
      · exact ⟨v.field, v, rfl, by rw [List.find?_append, hno0]; simp [isField], rfl⟩
    · intro u hu
      rcases List.mem_append.1 hu with hu | hu
      · obtain ⟨x, hx, e⟩ := h3 u hu
        exact ⟨x, by simp [hx], e⟩
      · obtain rfl := List.mem_singleton.1 hu
        exact ⟨⟨.string ⟨u.field.toArray⟩, u.val, c⟩, by simp, rfl⟩
    · show (w.heap.setIfInBounds b _)[k]? = _
      rw [Array.getElem?_setIfInBounds_ne (by omega)]
  · exfalso
    obtain ⟨t, u, e1, hu, -⟩ := h2 e (List.mem_of_getElem? hj)
    obtain rfl : v.field = t := string_inj (he.symm.trans e1)
    rw [hno0] at hu
    cases hu
end Go.Proofs.YtahfkahfaiidgaaGreatDoor


/-! The plain law of rules: which of them values break. -/
namespace Go.Proofs.YtahfkahfaiidgaaGreatDoor

def emptyB (v : Vlu) : Bool := v.text.isEmpty && decide (v.marks.length = 0)
/-- The sum of a text's signs, each less '0'. -/
def digAt (l : List UInt8) (i : Nat) : Nat := ((l.getD i 48) - 48).toNat
def sumSg (l : List UInt8) : Nat → Nat
  | 0 => 0
  | i + 1 => sumSg l i + digAt l i
theorem digAt_le (l : List UInt8) (i : Nat) : digAt l i ≤ 255 := by
  unfold digAt
  have := (l.getD i 48 - 48).toNat_lt
  omega
theorem sumSg_le (l : List UInt8) : ∀ i, sumSg l i ≤ 255 * i
  | 0 => Nat.le_refl _
  | i + 1 => by
    have h1 := sumSg_le l i
    have h2 := digAt_le l i
    show sumSg l i + digAt l i ≤ _
    omega
def sumB (v o : List UInt8) : Bool := v.isEmpty || (o.isEmpty || (madeOf v digits10 && (madeOf o digits10 && decide (sumSg v v.length % 10 = digAt o (o.length - 1)))))
/-- Whether a rule holds for the values of its two fields. -/
def holdsB (r : Rul) (v o : Vlu) : Bool :=
  if r.kind = 1 then !emptyB v
  else if r.kind = 2 then madeOf v.text digits10
  else if r.kind = 3 then v.text.isEmpty || decide (v.text ∈ wordsOf r.text)
  else if r.kind = 4 then decide (v.text = o.text)
  else if r.kind = 5 then sumB v.text o.text
  else decide (int2 r.text = some v.marks.length)
structure Brk where
  rule : Nat
  field : List UInt8
def Brk.cells (b : Brk) : List Value := [.int .i64 b.rule, .string ⟨b.field.toArray⟩]
def Brk.val (b : Brk) : Value := .agg #[.int .i64 b.rule, .string ⟨b.field.toArray⟩]
def brokenR (vs : List Vlu) (rs : List Rul) : Nat → List Brk
  | 0 => []
  | i + 1 => brokenR vs rs i ++ (match rs[i]? with
    | none => []
    | some r => if holdsB r (vluOf vs r.field) (vluOf vs r.other) then [] else [⟨i, r.field⟩])
def brokenF (vs : List Vlu) (n : Nat) (fs : List Fld) : Nat → List Brk
  | 0 => []
  | i + 1 => brokenF vs n fs i ++ (match fs[i]? with
    | none => []
    | some f => if f.needed && emptyB (vluOf vs f.name) then [⟨n + i, f.name⟩] else [])
theorem brokenR_keep {vs : List Vlu} {rs : List Rul} {i : Nat} {r : Rul} (h : rs[i]? = some r) (hb : holdsB r (vluOf vs r.field) (vluOf vs r.other) = true) : brokenR vs rs (i + 1) = brokenR vs rs i := by
  show brokenR vs rs i ++ _ = _
  rw [h]
  simp [hb]
theorem brokenR_more {vs : List Vlu} {rs : List Rul} {i : Nat} {r : Rul} (h : rs[i]? = some r) (hb : holdsB r (vluOf vs r.field) (vluOf vs r.other) = false) : brokenR vs rs (i + 1) = brokenR vs rs i ++ [⟨i, r.field⟩] := by
  show brokenR vs rs i ++ _ = _
  rw [h]
  simp [hb]
theorem brokenF_keep {vs : List Vlu} {n : Nat} {fs : List Fld} {i : Nat} {f : Fld} (h : fs[i]? = some f) (hb : (f.needed && emptyB (vluOf vs f.name)) = false) : brokenF vs n fs (i + 1) = brokenF vs n fs i := by
  show brokenF vs n fs i ++ _ = _
  rw [h]
  simp only [hb, Bool.false_eq_true, if_false, List.append_nil]
theorem brokenF_more {vs : List Vlu} {n : Nat} {fs : List Fld} {i : Nat} {f : Fld} (h : fs[i]? = some f) (hb : (f.needed && emptyB (vluOf vs f.name)) = true) : brokenF vs n fs (i + 1) = brokenF vs n fs i ++ [⟨n + i, f.name⟩] := by
  show brokenF vs n fs i ++ _ = _
  rw [h]
  simp only [hb, if_true]
theorem brokenR_len (vs : List Vlu) (rs : List Rul) : ∀ i, (brokenR vs rs i).length ≤ i
  | 0 => Nat.le_refl _
  | i + 1 => by
    have := brokenR_len vs rs i
    show (brokenR vs rs i ++ _).length ≤ _
    rw [List.length_append]
    split
    · simp; omega
    · split <;> simp <;> omega
theorem brokenF_len (vs : List Vlu) (n : Nat) (fs : List Fld) : ∀ i, (brokenF vs n fs i).length ≤ i
  | 0 => Nat.le_refl _
  | i + 1 => by
    have := brokenF_len vs n fs i
    show (brokenF vs n fs i ++ _).length ≤ _
    rw [List.length_append]
    split
    · simp; omega
    · split <;> simp <;> omega
def brokenL (vs : List Vlu) (rs : List Rul) (fs : List Fld) : List Brk := brokenR vs rs rs.length ++ brokenF vs rs.length fs fs.length
theorem needed_empty (v o : Vlu) (f s t : List UInt8) : holdsB ⟨1, f, s, t⟩ v o = !emptyB v := by unfold holdsB; rw [if_pos rfl]
/-- Digits alone: each sign is one, and its byte less '0' is small. -/
theorem isField_mem {vs : List Vlu} {s : List UInt8} {v : Vlu} (h : vs.find? (isField s) = some v) : v ∈ vs := List.mem_of_find?_eq_some h
theorem vluOf_mem (vs : List Vlu) (s : List UInt8) : vluOf vs s = noVlu ∨ vluOf vs s ∈ vs := by
  unfold vluOf
  cases h : vs.find? (isField s) with
  | none => exact .inl rfl
  | some v => exact .inr (isField_mem h)
theorem vluOf_ind {Q : Vlu → Prop} (vs : List Vlu) (s : List UInt8) (h0 : Q noVlu) (h : ∀ v ∈ vs, Q v) : Q (vluOf vs s) := by
  rcases vluOf_mem vs s with e | e
  · rw [e]; exact h0
  · exact h _ e
theorem whenI_no {b : Bool} {e : Int} (he : e ≠ 0) (h : whenI b e = 0) : b = false := by
  cases b with
  | false => rfl
  | true => exact absurd h he
theorem rulErr_ok {fs : List Fld} {r : Rul} (h : rulErr fs r = 0) : inB r.kind 1 6 = true ∧ (r.kind = 6 → (int2 r.text).isSome = true) := by
  unfold rulErr at h
  have hz := firstNZ_zero h
  have h1 := whenI_no (by decide) (hz (whenI (!inB r.kind 1 6) 1) (by simp))
  have h2 := whenI_no (by decide) (hz (whenI ((!twoB r.kind && !r.other.isEmpty) || ((!textK r.kind && !r.text.isEmpty) || ((decide (r.kind = 3) && !wordsB r.text) || (decide (r.kind = 6) && (int2 r.text).isNone)))) 2) (by simp))
  refine ⟨by simpa using h1, fun h6 => ?_⟩
  rw [decide_eq_true h6] at h2
  simp at h2
  exact h2.2.2.2
theorem rulsErr_ok {fs : List Fld} {l : List Rul} (h : rulsErr fs l = 0) : ∀ r ∈ l, rulErr fs r = 0 := by
  induction l with
  | nil => intro a ha; cases ha
  | cons x l ih =>
    unfold rulsErr at h
    by_cases h1 : rulErr fs x = 0
    · rw [if_pos h1] at h
      intro a ha
      rcases List.mem_cons.1 ha with rfl | ha
      · exact h1
      · exact ih h a ha
    · rw [if_neg h1] at h
      exact absurd h h1
theorem frm_ok {f : Frm} (h : f.err = 0) : f.lf.length ≤ 50 ∧ f.lr.length ≤ 50 ∧ (∀ r ∈ f.lr, rulErr f.lf r = 0) ∧ fldsErr f.W f.H [] f.lf = 0 := by
  unfold Frm.err formErr at h
  have hz := firstNZ_zero h
  have h1 := whenI_no (by decide) (hz (whenI (decide (50 < f.lf.length)) 4) (by simp))
  have h2 := whenI_no (by decide) (hz (whenI (decide (50 < f.lr.length)) 4) (by simp))
  have h3 := hz (rulsErr f.lf f.lr) (by simp)
  exact ⟨by simpa using h1, by simpa using h2, rulsErr_ok h3, hz (fldsErr f.W f.H [] f.lf) (by simp)⟩
theorem vluErr_twice {fs : List Fld} {tw : Bool} {v : Vlu} (h : vluErr fs tw v = 0) : tw = false := by
  unfold vluErr at h
  split at h
  · exact absurd h (by decide)
  · exact whenI_no (by decide) (firstNZ_zero h (whenI tw 6) (by simp))
end Go.Proofs.YtahfkahfaiidgaaGreatDoor


/-! The closures of bedref2.BrokenOf: the value of a field, and whether a value is empty. -/
namespace Go.Proofs.YtahfkahfaiidgaaGreatDoor
open Go.RowKit Go.Shelf

set_option maxHeartbeats 1000000 in
theorem get1_any (b : Nat) (nm : List UInt8) (x : Vlu) (w : World) (hb : Blk w b 9 #[.string ⟨nm.toArray⟩]) :
    Calls Tryz.prog 44 #[x.val, .pointer (some ⟨b, 0, none⟩)] w fun e w' => e = .returned (.bool (isField nm x)) ∧ Bl w w' := by
  have k1 := hb.all1
  have hlt := hb.lt
  unfold Vlu.val isField
  by_cases he : x.field = nm
  · rw [decide_eq_true he]
    go_enter Tryz.func44, Tryz.ntmps44
    go_wp2_with fail
    go_ret
    exact ⟨by simp [he], (Bl.refl _).alloc _⟩
  · rw [decide_eq_false he]
    go_enter Tryz.func44, Tryz.ntmps44
    go_wp2_with fail
    go_ret
    exact ⟨by simp [he], (Bl.refl _).alloc _⟩
theorem get1_tests (b : Nat) (nm : List UInt8) (ls : List Vlu) (w : World) (hb : Blk w b 9 #[.string ⟨nm.toArray⟩]) : TestsG Vlu.val Tryz.prog 44 #[.pointer (some ⟨b, 0, none⟩)] w ls (isField nm) :=
  ⟨enters Tryz.func44 (by kernel_rfl) rfl, fun wy y hy _ => get1_any b nm y wy (hb.bl hy)⟩
theorem firstG_vlu {vs : List Vlu} {nm : List UInt8} {i : Int} (h : FirstG vs (isField nm) i) : (i < 0 ∧ vluOf vs nm = noVlu) ∨ ∃ (j : Nat) (v : Vlu), i = (j : Int) ∧ vs[j]? = some v ∧ vluOf vs nm = v := by
  rcases h with ⟨rfl, h⟩ | ⟨j, v, rfl, hv, hp, hn⟩
  · refine .inl ⟨by omega, ?_⟩
    unfold vluOf
    rw [List.find?_eq_none.2 (fun l hl => by rw [h l hl]; decide)]
    rfl
  · refine .inr ⟨j, v, rfl, hv, ?_⟩
    have key : ∀ (vs : List Vlu) (j : Nat), vs[j]? = some v → (∀ j' l', j' < j → vs[j']? = some l' → isField nm l' = false) → vs.find? (isField nm) = some v := by
      intro vs
      induction vs with
      | nil => intro j h; simp at h
      | cons x vs ih =>
        intro j hj hn
        cases j with
        | zero =>
          obtain rfl : x = v := by simpa using hj
          rw [List.find?_cons, hp]
        | succ j =>
          rw [List.find?_cons, hn 0 x (Nat.succ_pos _) rfl]
          exact ih j (by simpa using hj) fun j' l' h1 h2 => hn (j' + 1) l' (by omega) (by simpa using h2)
    unfold vluOf
    rw [key vs j hv hn]
    rfl
set_option maxRecDepth 100000 in
set_option maxHeartbeats 2000000 in
theorem get_any (L : Option Addr) (c : Nat) (l : List Vlu) (p : Nat) (nm : List UInt8) (w : World) (hp : Blk w p 27 #[.slice L l.length c]) (hL : VlusAt w L l) (hln : l.length ≤ 9223372036854775807) :
    Calls Tryz.prog 42 #[.string ⟨nm.toArray⟩, .pointer (some ⟨p, 0, none⟩)] w fun e w' => e = .returned (vluOf l nm).val ∧ Bl w w' := by
  let w1 := ((w).alloc (.cells #[.string ⟨nm.toArray⟩] 9)).alloc (.cells #[.string ⟨#[]⟩, .string ⟨#[]⟩, .slice none 0 0, .int .i64 0] 73)
  have w1b : Bl w w1 := ((Bl.refl w).alloc _).alloc _
  have w11 : Blk w1 (w.heap.size) 9 #[.string ⟨nm.toArray⟩] := by
    have h0 := Blk.new (w) 9 #[.string ⟨nm.toArray⟩]
    exact (h0.alloc _)
  have w12 : Blk w1 (w.heap.size + 1) 73 #[.string ⟨#[]⟩, .string ⟨#[]⟩, .slice none 0 0, .int .i64 0] := by
    have h0 := Blk.new ((w).alloc (.cells #[.string ⟨nm.toArray⟩] 9)) 73 #[.string ⟨#[]⟩, .string ⟨#[]⟩, .slice none 0 0, .int .i64 0]
    simp only [World.size_alloc] at h0
    exact h0
  have hix := vluIndex_any L c l 44 #[.pointer (some ⟨w.heap.size, 0, none⟩)] (isField nm) w1 (hL.bl w1b) (get1_tests _ _ _ _ w11) hln
  have Hix := Lib.hid hix; have HL := Lib.hid hL; have HP := Lib.hid hp; have HW1b := Lib.hid w1b
  obtain ⟨V, hV⟩ : ∃ v, v = vluOf l nm := ⟨_, rfl⟩
  rw [← hV]
  have HV := Lib.hid hV
  have k1 := (hp.bl w1b).all1
  have k2 := w11.all1
  have k3 := w12.all4
  clear hix hL hp hV w1b
  go_enter Tryz.func42, Tryz.ntmps42
  go_upto_region 1 with fail
  rw [show (w.alloc (.cells #[.string ⟨nm.toArray⟩] 9)).alloc (.cells #[.string ⟨#[]⟩, .string ⟨#[]⟩, .slice none 0 0, .int .i64 0] 73) = w1 from rfl]
  clear_value w1
  go_upto_region 2 with (go_at_call 43; refine Hix.out.mono ?_; rintro e w2 ⟨i, rfl, hi, hb2⟩)
  have Hb2 := Lib.hid (HW1b.out.trans hb2)
  have B2 := Lib.hid (w12.bl hb2)
  have k1 := (HP.out.bl Hb2.out).all1
  have k3 := B2.out.all4
  clear hb2 k2
  rcases firstG_vlu hi with ⟨h0, hk⟩ | ⟨j, v, rfl, hl, hk⟩
  · have HX := Lib.hid (HV.out.trans hk)
    clear hi hk
    go_wp2_with fail
    obtain ⟨wS, hwS⟩ : ∃ x, x = ((((w2.setCell ⟨w.heap.size + 1, 0, none⟩ (.string ⟨#[]⟩)).setCell ⟨w.heap.size + 1, 1, none⟩ (.string ⟨#[]⟩)).setCell ⟨w.heap.size + 1, 2, none⟩ (.slice none 0 0)).setCell ⟨w.heap.size + 1, 3, none⟩ (.int .i64 0)) := ⟨_, rfl⟩
    have bS : Blk wS (w.heap.size + 1) 73 #[.string ⟨#[]⟩, .string ⟨#[]⟩, .slice none 0 0, .int .i64 0] := by rw [hwS]; exact (((B2.out.set_ 0 _).set_ 1 _).set_ 2 _).set_ 3 _
    have hS : Bl w wS := by rw [hwS]; exact (((Hb2.out.setCell (Nat.le_succ _) _).setCell (Nat.le_succ _) _).setCell (Nat.le_succ _) _).setCell (Nat.le_succ _) _
    rw [← hwS]
    have kF := bS.all4
    refine bodyPost_ret (v := .agg #[.string ⟨#[]⟩, .string ⟨#[]⟩, .slice none 0 0, .int .i64 0]) (by simp [results, Tryz.results42, go_sem, kF]) rfl ⟨by rw [HX.out]; rfl, hS⟩
  · obtain ⟨ad, eA, j1, j2, j3, j4⟩ := (HL.out.bl Hb2.out).at_ hl
    subst eA
    have HX := Lib.hid (HV.out.trans hk)
    have hjl := (List.getElem?_eq_some_iff.1 hl).1
    clear hi hk hl
    go_wp2_with fail
    obtain ⟨wS, hwS⟩ : ∃ x, x = ((((w2.setCell ⟨w.heap.size + 1, 0, none⟩ (.string ⟨v.field.toArray⟩)).setCell ⟨w.heap.size + 1, 1, none⟩ (.string ⟨v.text.toArray⟩)).setCell ⟨w.heap.size + 1, 2, none⟩ (.slice v.M v.marks.length v.mc)).setCell ⟨w.heap.size + 1, 3, none⟩ (.int .i64 v.sure)) := ⟨_, rfl⟩
    have bS : Blk wS (w.heap.size + 1) 73 #[.string ⟨v.field.toArray⟩, .string ⟨v.text.toArray⟩, .slice v.M v.marks.length v.mc, .int .i64 v.sure] := by rw [hwS]; exact (((B2.out.set_ 0 _).set_ 1 _).set_ 2 _).set_ 3 _
    have hS : Bl w wS := by rw [hwS]; exact (((Hb2.out.setCell (Nat.le_succ _) _).setCell (Nat.le_succ _) _).setCell (Nat.le_succ _) _).setCell (Nat.le_succ _) _
    rw [← hwS]
    have kF := bS.all4
    refine bodyPost_ret (v := .agg #[.string ⟨v.field.toArray⟩, .string ⟨v.text.toArray⟩, .slice v.M v.marks.length v.mc, .int .i64 v.sure]) (by simp [results, Tryz.results42, go_sem, kF]) rfl ⟨by rw [HX.out]; rfl, hS⟩
set_option maxRecDepth 100000 in
set_option maxHeartbeats 1000000 in
theorem empty_any (v : Vlu) (w : World) :
    Calls Tryz.prog 45 #[v.val] w fun e w' => e = .returned (.bool (emptyB v)) ∧ Bl w w' := by
  obtain ⟨vf, vt, vM, vc, vm, vS⟩ := v
  obtain ⟨E, hE⟩ : ∃ b, b = emptyB ⟨vf, vt, vM, vc, vm, vS⟩ := ⟨_, rfl⟩
  rw [← hE]
  have HE := Lib.hid (show E = (vt.isEmpty && decide (vm.length = 0)) from hE)
  obtain ⟨te, hte⟩ : ∃ b, vt.isEmpty = b := ⟨_, rfl⟩
  have Hte := Lib.hid hte
  unfold Vlu.val
  clear hE
  go_enter Tryz.func45, Tryz.ntmps45
  cases te with
  | false =>
    have HX := Lib.hid (show E = false by rw [HE.out, Hte.out]; rfl)
    go_wp2_with fail
    go_ret
    exact ⟨by rw [HX.out] <;> rfl, (Bl.refl _).alloc _⟩
  | true =>
    by_cases h0 : vm.length = 0
    · have q0 : ((vm.length : Int) == 0) = true := by simp [h0]
      have HX := Lib.hid (show E = true by rw [HE.out, Hte.out, decide_eq_true h0]; rfl)
      clear h0
      go_wp2_with fail
      go_ret
      exact ⟨by rw [HX.out] <;> rfl, (Bl.refl _).alloc _⟩
    · have q0 : ((vm.length : Int) == 0) = false := by rw [beq_eq_false_iff_ne]; omega
      have HX := Lib.hid (show E = false by rw [HE.out, Hte.out, decide_eq_false h0]; rfl)
      clear h0
      go_wp2_with fail
      go_ret
      exact ⟨by rw [HX.out] <;> rfl, (Bl.refl _).alloc _⟩
end Go.Proofs.YtahfkahfaiidgaaGreatDoor
