/- bedref2.ruleError is rulErr. -/
import Derived.Test.YthobmednnocklaaGreatDoorMClaimFills15
import Derived.Test.YthobmednnocklaaGreatDoorMClaimFills14
import Derived.Test.YthobmednnocklaaGreatDoorMClaimFills18
import Derived.Test.YthobmednnocklaaGreatDoorMClaimFills11

namespace Go.Proofs.YthobmednnocklaaGreatDoor
open Go.RowKit Go.Shelf

theorem head_ways (o two t tk : Bool) : (two = false ∧ o = false) ∨ (((two = true) ∨ (two = false ∧ o = true)) ∧ ((tk = false ∧ t = false) ∨ (tk = true) ∨ (tk = false ∧ t = true))) := by
 cases o <;> cases two <;> cases t <;> cases tk <;> decide
theorem names_one {r : Rul} (h : twoB r.kind = false) : namesOf r = [r.field] := by unfold namesOf; rw [h]; rfl
theorem names_two {r : Rul} (h : twoB r.kind = true) : namesOf r = [r.field, r.other] := by unfold namesOf; rw [h]; rfl
theorem two_kind {k : Int} (h : twoB k = true) : k ≠ 1 ∧ k ≠ 6 := by
 unfold twoB at h
 simp at h
 omega
set_option maxRecDepth 100000 in
set_option maxHeartbeats 8000000 in
theorem ruleError_any (f : Frm) (r : Rul) (w : World) (hF : FrmAt w f) (h3 : r.text.length ≤ 1048576) (hC : SplitOk w) :
 Calls Tryz.prog 73 #[f.val, r.val] w fun e w' => e = .returned (.int .i64 (rulErr f.lf r)) ∧ Bl w w' := by
 obtain ⟨nm, fW, fH, reach, dark, AL, ac, la, FL, fc, lf, RL, rc, lr⟩ := f
 obtain ⟨RE, hRE⟩ : ∃ y, y = rulErr lf r := ⟨_, rfl⟩
 show Calls _ _ _ w fun e w' => e = .returned (.int .i64 (rulErr lf r)) ∧ Bl w w'
 rw [← hRE]
 have HRE := Lib.hid hRE
 obtain ⟨K, hK⟩ : ∃ k, k = r.kind := ⟨_, rfl⟩
 obtain ⟨o, ho⟩ : ∃ b, r.other.isEmpty = b := ⟨_, rfl⟩
 obtain ⟨t, ht⟩ : ∃ b, r.text.isEmpty = b := ⟨_, rfl⟩
 obtain ⟨two, htwo⟩ : ∃ b, twoB r.kind = b := ⟨_, rfl⟩
 obtain ⟨tk, htk⟩ : ∃ b, textK r.kind = b := ⟨_, rfl⟩
 obtain ⟨wd, hwd⟩ : ∃ b, wordsB r.text = b := ⟨_, rfl⟩
 obtain ⟨nb, hnb⟩ : ∃ b, (int2 r.text).isSome = b := ⟨_, rfl⟩
 have HT := Lib.hid (rulTail_bools ho htwo ht htk rfl hwd rfl hnb)
 have Htwo := Lib.hid htwo; have Htk := Lib.hid htk; have Hwd := Lib.hid hwd; have Hnb := Lib.hid hnb; have HK := Lib.hid hK
 let w1 := ((w).alloc (.cells #[.string ⟨nm.toArray⟩, .int .i64 fW, .int .i64 fH, .int .i64 reach, .int .i64 dark, .slice AL la.length ac, .slice FL lf.length fc, .slice RL lr.length rc] 75)).alloc (.cells #[.int .i64 r.kind, .string ⟨r.field.toArray⟩, .string ⟨r.other.toArray⟩, .string ⟨r.text.toArray⟩] 147)
 have w1b : Bl w w1 := ((Bl.refl w).alloc _).alloc _
 have w11 : Blk w1 (w.heap.size) 75 #[.string ⟨nm.toArray⟩, .int .i64 fW, .int .i64 fH, .int .i64 reach, .int .i64 dark, .slice AL la.length ac, .slice FL lf.length fc, .slice RL lr.length rc] := by
  have h0 := Blk.new (w) 75 #[.string ⟨nm.toArray⟩, .int .i64 fW, .int .i64 fH, .int .i64 reach, .int .i64 dark, .slice AL la.length ac, .slice FL lf.length fc, .slice RL lr.length rc]
  exact (h0.alloc _)
 have w12 : Blk w1 (w.heap.size + 1) 147 #[.int .i64 r.kind, .string ⟨r.field.toArray⟩, .string ⟨r.other.toArray⟩, .string ⟨r.text.toArray⟩] := by
  have h0 := Blk.new ((w).alloc (.cells #[.string ⟨nm.toArray⟩, .int .i64 fW, .int .i64 fH, .int .i64 reach, .int .i64 dark, .slice AL la.length ac, .slice FL lf.length fc, .slice RL lr.length rc] 75)) 147 #[.int .i64 r.kind, .string ⟨r.field.toArray⟩, .string ⟨r.other.toArray⟩, .string ⟨r.text.toArray⟩]
  simp only [World.size_alloc] at h0
  exact h0
 have hfa := fun (n : List UInt8) wx (hF : FrmAt wx ⟨nm, fW, fH, reach, dark, AL, ac, la, FL, fc, lf, RL, rc, lr⟩) => fieldOf_any _ n wx hF
 unfold Frm.val at hfa
 have HF := Lib.hid (hF.bl w1b); have HC := Lib.hid (hC.bl w1b); have Hfa := Lib.hid hfa
 have hsp := fun wx hC => splitS_any r.text wx (by omega) hC
 have hcf := fun wx => containsFunc_any r.text wx
 have hn2 := fun wx => number2_any ⟨r.text.toArray⟩ wx (by rw [Lib.size_mk]; omega)
 have Hsp := Lib.hid hsp; have Hcf := Lib.hid hcf; have Hn2 := Lib.hid hn2
 have k1 := w11.all8
 have k2 := w12.all4
 have hln : lf.length ≤ 9223372036854775807 := hF.fn.2
 have HW1b := Lib.hid w1b
 unfold Frm.val Rul.val
 clear hF hC hRE hfa w1b hsp hcf hn2 htwo htk hwd hnb hK
 go_enter Tryz.func73, Tryz.ntmps73
 cases hin : inB r.kind 1 6 with
 | false =>
  have HX := Lib.hid (rulErr_kind (fs := lf) hin)
  have hI : ∀ wx, Calls Tryz.prog 12 #[.int .i64 r.kind, .int .i64 1, .int .i64 6] wx fun e w' => e = .returned (.bool false) ∧ wx = w' := fun wx => by rw [← hin]; exact in_any _ _ _ _
  have HI := Lib.hid hI
  clear hin hI
  go_wp2_with (go_at_call 12; refine (HI.out _).mono ?_; rintro e w' ⟨rfl, rfl⟩)
  go_ret
  exact ⟨by rw [HRE.out, HX.out]; rfl, HW1b.out⟩
 | true =>
 have HIn := Lib.hid hin
 have hI : ∀ wx, Calls Tryz.prog 12 #[.int .i64 r.kind, .int .i64 1, .int .i64 6] wx fun e w' => e = .returned (.bool true) ∧ wx = w' := fun wx => by rw [← hin]; exact in_any _ _ _ _
 have HI := Lib.hid hI
 clear hin hI
 go_upto_region 3 with (go_at_call 12; refine (HI.out _).mono ?_; rintro e w' ⟨rfl, rfl⟩)
 go_cut [5] from 16 to 24 (fun s wc => s = .bool two ∧ w1 = wc)
 case first =>
  have hd : two = (decide (r.kind = 4) || decide (r.kind = 5)) := Htwo.out.symm
  by_cases c4 : r.kind = 4
  · have q4 : (r.kind == 4) = true := by simpa using c4
    have HX := Lib.hid (show two = true by rw [hd, decide_eq_true c4]; rfl)
    clear hd c4
    go_wp2_with fail
    go_meet
    case rel => exact ⟨by rw [HX.out], rfl⟩
  · have q4 : (r.kind == 4) = false := by simpa using c4
    by_cases c5 : r.kind = 5
    · have q5 : (r.kind == 5) = true := by simpa using c5
      have HX := Lib.hid (show two = true by rw [hd, decide_eq_true c5, Bool.or_true])
      clear hd c5
      go_wp2_with fail
      go_meet
      case rel => exact ⟨by rw [HX.out], rfl⟩
    · have q5 : (r.kind == 5) = false := by simpa using c5
      have HX := Lib.hid (show two = false by rw [hd, decide_eq_false c4, decide_eq_false c5]; rfl)
      clear hd
      go_wp2_with fail
      go_meet
      case rel => exact ⟨by rw [HX.out], rfl⟩
 case rest =>
 rename World => wd1
 obtain ⟨rfl, rfl⟩ := hcut
 go_upto_region 4 with fail
 go_cut [6] from 24 to 32 (fun s wc => s = .bool tk ∧ w1 = wc)
 case first =>
  have hd : tk = (decide (r.kind = 3) || decide (r.kind = 6)) := Htk.out.symm
  by_cases c4 : r.kind = 3
  · have q4 : (r.kind == 3) = true := by simpa using c4
    have HX := Lib.hid (show tk = true by rw [hd, decide_eq_true c4]; rfl)
    clear hd c4
    go_wp2_with fail
    go_meet
    case rel => exact ⟨by rw [HX.out], rfl⟩
  · have q4 : (r.kind == 3) = false := by simpa using c4
    by_cases c5 : r.kind = 6
    · have q5 : (r.kind == 6) = true := by simpa using c5
      have HX := Lib.hid (show tk = true by rw [hd, decide_eq_true c5, Bool.or_true])
      clear hd c5
      go_wp2_with fail
      go_meet
      case rel => exact ⟨by rw [HX.out], rfl⟩
    · have q5 : (r.kind == 6) = false := by simpa using c5
      have HX := Lib.hid (show tk = false by rw [hd, decide_eq_false c4, decide_eq_false c5]; rfl)
      clear hd
      go_wp2_with fail
      go_meet
      case rel => exact ⟨by rw [HX.out], rfl⟩
 case rest =>
 rename World => wd1
 obtain ⟨rfl, rfl⟩ := hcut
 go_upto_region 5 with fail
 refine wp_region_flow [(true, 0), (true, 1), (true, 2), (true, 4), (true, 5), (true, 6), (false, 3), (false, 7), (true, 8), (true, 9)] (fun _ => false) (by kernel_rfl) (by kernel_rfl) (by kernel_rfl) (by kernel_rfl) ?_
 iterate 6
  apply Flow.calm2 _ _ rfl rfl
  · intro w' hb' K' hK'
    obtain ⟨hc', hf'⟩ := hb'.rule
    go_simp
    try go_ints
    exact hK'
  · intro K' hK'
    simp only [sqA]
    exact hK'
 apply Flow.move rfl
 go_wp2_with fail
 refine (Hfa.out _ _ (HF.out.bl (Bl.refl _).drew)).mono ?_
 rintro e w2 ⟨ia, rfl, hia, HB1⟩
 have Hia := Lib.hid hia
 have hb2 : Bl w1 w2 := Bl.ofDrew HB1
 clear hia
 go_wp2_with fail
 refine ⟨fun _ => (by first | exact HB1 | exact Bl.refl _), ?_⟩
 apply Flow.move rfl
 go_wp2_with fail
 refine (Hfa.out _ _ (HF.out.bl hb2)).mono ?_
 rintro e w3 ⟨ib, rfl, hib, HB2⟩
 have Hib := Lib.hid hib
 clear hib
 go_wp2_with fail
 refine ⟨fun _ => (by first | exact HB2 | exact Bl.refl _), ?_⟩
 iterate 2
  apply Flow.asg _ rfl
  · intro K' hK'
    simp only [sqA, Act.eval, arr_getD, List.getD_cons_zero, List.getD_cons_succ]
    exact hK'
 refine Flow.done ?_
 have hb3 : Bl w1 w3 := hb2.trans HB2
 have Hb3 := Lib.hid hb3
 have k1 := (w11.bl hb3).all8
 have k2 := (w12.bl hb3).all4
 clear hb2 HB1 HB2 hb3
 obtain ⟨NO, hNO⟩ : ∃ b, b = (namesOf r).any fun n => decide (kindOf lf n = none) := ⟨_, rfl⟩
 obtain ⟨BAD, hBAD⟩ : ∃ b, b = (namesOf r).any (kindBad lf r.kind) := ⟨_, rfl⟩
 obtain ⟨TT, hTT⟩ : ∃ b, b = rulTail r := ⟨_, rfl⟩
 have HE := Lib.hid (show RE = firstNZ [whenI NO 10, whenI BAD 1, whenI TT 2] by
  rw [HRE.out, rulErr_names, HIn.out, hNO, hBAD, hTT]
  exact firstNZ_0)
 have HNO := Lib.hid hNO; have HBAD := Lib.hid hBAD; have HTT := Lib.hid (hTT.trans HT.out)
 clear hNO hBAD hTT
 go_upto_region 6 with fail
 go_cut [48] from 40 to 48 (fun s wc => s = .bool NO ∧ w3 = wc)
 case first =>
  rcases firstG_kind Hia.out with ⟨ha0, hka⟩ | ⟨ja, fa, rfl, hfa', hka⟩
  · have HX := Lib.hid (show NO = true by rw [HNO.out]; exact List.any_eq_true.2 ⟨r.field, by unfold namesOf; split <;> simp, decide_eq_true hka⟩)
    clear hka
    go_wp2_with fail
    go_meet
    case rel => exact ⟨by rw [HX.out], rfl⟩
  · cases two with
    | false =>
     have HX := Lib.hid (show NO = false by rw [HNO.out, names_one Htwo.out]; simp [hka])
     clear hka hfa'
     go_wp2_with fail
     go_meet
     case rel => exact ⟨by rw [HX.out] <;> first | rfl | exact congrArg Value.bool (decide_eq_false (by omega)), rfl⟩
    | true =>
     rcases firstG_kind Hib.out with ⟨hb0, hkb⟩ | ⟨jb, fb, rfl, hfb', hkb⟩
     · have HX := Lib.hid (show NO = true by rw [HNO.out, names_two Htwo.out]; simp [hkb])
       clear hka hfa' hkb
       go_wp2_with fail
       go_meet
       case rel => exact ⟨by rw [HX.out] <;> first | rfl | exact congrArg Value.bool (decide_eq_false (by omega)), rfl⟩
     · have HX := Lib.hid (show NO = false by rw [HNO.out, names_two Htwo.out]; simp [hka, hkb])
       clear hka hfa' hkb hfb'
       go_wp2_with fail
       go_meet
       case rel => exact ⟨by rw [HX.out] <;> first | rfl | exact congrArg Value.bool (decide_eq_false (by omega)), rfl⟩
 case rest =>
 rename World => wd1
 obtain ⟨rfl, rfl⟩ := hcut
 cases NO with
 | true =>
  have HX := Lib.hid (show RE = 10 by rw [HE.out]; rfl)
  go_wp2_with fail
  go_ret
  exact ⟨by rw [HX.out]; rfl, HW1b.out.trans Hb3.out⟩
 | false =>
 have Hsome := Lib.hid (show ∀ n ∈ namesOf r, kindOf lf n ≠ none from fun n hn h => by
  have := HNO.out
  rw [eq_comm, List.any_eq_false] at this
  exact this n hn (decide_eq_true h))
 rcases firstG_kind Hia.out with ⟨ha0, hka⟩ | ⟨ja, fa, rfl, hfa', hka⟩
 · exact absurd hka (Hsome.out r.field (by unfold namesOf; split <;> simp))
 obtain ⟨adF, e1, j1, j2, j3, j4, j5, j6, j7, j8, j9⟩ := FldsAt.at_ (HF.out.flds.bl Hb3.out) hfa'
 simp only at e1
 subst e1
 have hjl := (List.getElem?_eq_some_iff.1 hfa').1
 have Hka := Lib.hid hka
 clear hka hfa'
 go_upto_region 8 with fail
 go_cut [76] from 49 to 77 (fun s wc => s = .bool BAD ∧ Bl w3 wc)
 case first =>
  cases two with
  | false =>
   have HB1 := Lib.hid (show BAD = (!decide (r.kind = 1) && (marksB fa.kind != decide (r.kind = 6))) by rw [HBAD.out, names_one Htwo.out]; unfold kindBad; rw [List.any_cons, Hka.out]; simp)
   by_cases hk1 : r.kind = 1
   · have q1 : (r.kind != 1) = false := by simp [hk1]
     have HX := Lib.hid (show BAD = false by rw [HB1.out, decide_eq_true hk1]; rfl)
     clear hk1
     refine wp_region_flow [(true, 0), (true, 1), (true, 2), (true, 3), (true, 4), (true, 5), (true, 6), (true, 7), (true, 8), (true, 9), (true, 11), (true, 12), (true, 13), (false, 10), (true, 14), (true, 15), (true, 16), (true, 17), (true, 18), (true, 19), (true, 20), (true, 21), (true, 22), (true, 23), (true, 24), (false, 25), (true, 26), (true, 27)] (fun _ => false) (by kernel_rfl) (by kernel_rfl) (by kernel_rfl) (by kernel_rfl) ?_
     iterate 3
      apply Flow.calm2 _ _ rfl rfl
      · intro w' hb' K' hK'
        obtain ⟨hc', hf'⟩ := hb'.rule
        go_simp
        try go_ints
        exact hK'
      · intro K' hK'
        simp only [sqA]
        exact hK'
     iterate 1
      apply Flow.mv _ rfl
      · intro K' hK'
        simp only [sqA, Act.eval, arr_getD, List.getD_cons_zero, List.getD_cons_succ]
        exact hK'
     iterate 9
      first
       | (apply Flow.pass rfl (by rfl))
       | (apply Flow.calmG _ rfl (by rfl)
          · intro w' hb'
            obtain ⟨hc', hf'⟩ := hb'.rule
            go_simp
            all_goals (try rfl))
      simp only [sqA]
      try go_ints
     -- a guarded mover
     apply Flow.move rfl
     go_wp2_with fail
     first | refine ⟨fun _ => Bl.refl _, ?_⟩ | refine ⟨Bl.refl _, ?_⟩
     first
      | (apply Flow.pass rfl (by rfl))
      | (apply Flow.calmG _ rfl (by rfl)
         · intro w' hb'
           obtain ⟨hc', hf'⟩ := hb'.rule
           go_simp
           all_goals (try rfl))
     simp only [sqA]
     try go_ints
     iterate 1
      apply Flow.calm2 _ _ rfl rfl
      · intro w' hb' K' hK'
        obtain ⟨hc', hf'⟩ := hb'.rule
        go_simp
        try go_ints
        exact hK'
      · intro K' hK'
        simp only [sqA]
        exact hK'
     iterate 1
      apply Flow.mv _ rfl
      · intro K' hK'
        simp only [sqA, Act.eval, arr_getD, List.getD_cons_zero, List.getD_cons_succ]
        exact hK'
     iterate 8
      first
       | (apply Flow.pass rfl (by rfl))
       | (apply Flow.calmG _ rfl (by rfl)
          · intro w' hb'
            obtain ⟨hc', hf'⟩ := hb'.rule
            go_simp
            all_goals (try rfl))
      simp only [sqA]
      try go_ints
     -- a guarded mover
     apply Flow.move rfl
     go_wp2_with fail
     first | refine ⟨fun _ => Bl.refl _, ?_⟩ | refine ⟨Bl.refl _, ?_⟩
     first
      | (apply Flow.pass rfl (by rfl))
      | (apply Flow.calmG _ rfl (by rfl)
         · intro w' hb'
           obtain ⟨hc', hf'⟩ := hb'.rule
           go_simp
           all_goals (try rfl))
     simp only [sqA]
     try go_ints
     iterate 1
      apply Flow.calm2 _ _ rfl rfl
      · intro w' hb' K' hK'
        obtain ⟨hc', hf'⟩ := hb'.rule
        go_simp
        try go_ints
        exact hK'
      · intro K' hK'
        simp only [sqA]
        exact hK'
     refine Flow.done ?_
     go_wp2_with fail
     go_meet
     case rel => exact ⟨by rw [show BAD = false from by exact HX.out], (Bl.refl _).drew⟩
   · have q1 : (r.kind != 1) = true := by simp [hk1]
     have e6 : decide (r.kind = 6) = (r.kind == 6) := by rw [Bool.eq_iff_iff]; simp
     rw [decide_eq_false hk1, e6] at HB1
     clear hk1 e6
     cases hmfa : marksB fa.kind with
     | true =>
      cases h6 : (r.kind == 6) with
      | true =>
       have HX := Lib.hid (show BAD = false by rw [HB1.out, hmfa, h6]; rfl)
       refine wp_region_flow [(true, 0), (true, 1), (true, 2), (true, 3), (true, 4), (true, 5), (true, 6), (true, 7), (true, 8), (true, 9), (true, 11), (true, 12), (true, 13), (false, 10), (true, 14), (true, 15), (true, 16), (true, 17), (true, 18), (true, 19), (true, 20), (true, 21), (true, 22), (true, 23), (true, 24), (false, 25), (true, 26), (true, 27)] (fun _ => false) (by kernel_rfl) (by kernel_rfl) (by kernel_rfl) (by kernel_rfl) ?_
       iterate 3
        apply Flow.calm2 _ _ rfl rfl
        · intro w' hb' K' hK'
          obtain ⟨hc', hf'⟩ := hb'.rule
          go_simp
          try go_ints
          exact hK'
        · intro K' hK'
          simp only [sqA]
          exact hK'
       iterate 1
        apply Flow.mv _ rfl
        · intro K' hK'
          simp only [sqA, Act.eval, arr_getD, List.getD_cons_zero, List.getD_cons_succ]
          exact hK'
       iterate 9
        first
         | (apply Flow.pass rfl (by rfl))
         | (apply Flow.calmG _ rfl (by rfl)
            · intro w' hb'
              obtain ⟨hc', hf'⟩ := hb'.rule
              go_simp
              all_goals (try rfl))
        simp only [sqA]
        try go_ints
       -- a guarded mover
       apply Flow.move rfl
       go_wp2_with fail
       refine (show Calls Tryz.prog 79 #[.int .i64 fa.kind] _ fun e w' => e = .returned (.bool true) ∧ _ = w' from by rw [← hmfa]; exact marksR_any _ _).mono ?_
       rintro e w' ⟨rfl, rfl⟩
       go_wp2_with fail
       refine ⟨fun _ => (by first | exact HB1 | exact Bl.refl _), ?_⟩
       first
        | (apply Flow.pass rfl (by rfl))
        | (apply Flow.calmG _ rfl (by rfl)
           · intro w' hb'
             obtain ⟨hc', hf'⟩ := hb'.rule
             go_simp
             all_goals (try rfl))
       simp only [sqA]
       try go_ints
       iterate 1
        apply Flow.calm2 _ _ rfl rfl
        · intro w' hb' K' hK'
          obtain ⟨hc', hf'⟩ := hb'.rule
          go_simp
          try go_ints
          exact hK'
        · intro K' hK'
          simp only [sqA]
          exact hK'
       iterate 1
        apply Flow.mv _ rfl
        · intro K' hK'
          simp only [sqA, Act.eval, arr_getD, List.getD_cons_zero, List.getD_cons_succ]
          exact hK'
       iterate 8
        first
         | (apply Flow.pass rfl (by rfl))
         | (apply Flow.calmG _ rfl (by rfl)
            · intro w' hb'
              obtain ⟨hc', hf'⟩ := hb'.rule
              go_simp
              all_goals (try rfl))
        simp only [sqA]
        try go_ints
       -- a guarded mover
       apply Flow.move rfl
       go_wp2_with fail
       first | refine ⟨fun _ => Bl.refl _, ?_⟩ | refine ⟨Bl.refl _, ?_⟩
       first
        | (apply Flow.pass rfl (by rfl))
        | (apply Flow.calmG _ rfl (by rfl)
           · intro w' hb'
             obtain ⟨hc', hf'⟩ := hb'.rule
             go_simp
             all_goals (try rfl))
       simp only [sqA]
       try go_ints
       iterate 1
        apply Flow.calm2 _ _ rfl rfl
        · intro w' hb' K' hK'
          obtain ⟨hc', hf'⟩ := hb'.rule
          go_simp
          try go_ints
          exact hK'
        · intro K' hK'
          simp only [sqA]
          exact hK'
       refine Flow.done ?_
       go_wp2_with fail
       go_meet
       case rel => exact ⟨by rw [show BAD = false from by exact HX.out], (Bl.refl _).drew⟩
      | false =>
       have HX := Lib.hid (show BAD = true by rw [HB1.out, hmfa, h6]; rfl)
       refine wp_region_flow [(true, 0), (true, 1), (true, 2), (true, 3), (true, 4), (true, 5), (true, 6), (true, 7), (true, 8), (true, 9), (true, 11), (true, 12), (true, 13), (false, 10), (true, 14), (true, 15), (true, 16), (true, 17), (true, 18), (true, 19), (true, 20), (true, 21), (true, 22), (true, 23), (true, 24), (false, 25), (true, 26), (true, 27)] (fun _ => false) (by kernel_rfl) (by kernel_rfl) (by kernel_rfl) (by kernel_rfl) ?_
       iterate 3
        apply Flow.calm2 _ _ rfl rfl
        · intro w' hb' K' hK'
          obtain ⟨hc', hf'⟩ := hb'.rule
          go_simp
          try go_ints
          exact hK'
        · intro K' hK'
          simp only [sqA]
          exact hK'
       iterate 1
        apply Flow.mv _ rfl
        · intro K' hK'
          simp only [sqA, Act.eval, arr_getD, List.getD_cons_zero, List.getD_cons_succ]
          exact hK'
       iterate 9
        first
         | (apply Flow.pass rfl (by rfl))
         | (apply Flow.calmG _ rfl (by rfl)
            · intro w' hb'
              obtain ⟨hc', hf'⟩ := hb'.rule
              go_simp
              all_goals (try rfl))
        simp only [sqA]
        try go_ints
       -- a guarded mover
       apply Flow.move rfl
       go_wp2_with fail
       refine (show Calls Tryz.prog 79 #[.int .i64 fa.kind] _ fun e w' => e = .returned (.bool true) ∧ _ = w' from by rw [← hmfa]; exact marksR_any _ _).mono ?_
       rintro e w' ⟨rfl, rfl⟩
       go_wp2_with fail
       refine ⟨fun _ => (by first | exact HB1 | exact Bl.refl _), ?_⟩
       first
        | (apply Flow.pass rfl (by rfl))
        | (apply Flow.calmG _ rfl (by rfl)
           · intro w' hb'
             obtain ⟨hc', hf'⟩ := hb'.rule
             go_simp
             all_goals (try rfl))
       simp only [sqA]
       try go_ints
       iterate 1
        apply Flow.calm2 _ _ rfl rfl
        · intro w' hb' K' hK'
          obtain ⟨hc', hf'⟩ := hb'.rule
          go_simp
          try go_ints
          exact hK'
        · intro K' hK'
          simp only [sqA]
          exact hK'
       iterate 1
        apply Flow.mv _ rfl
        · intro K' hK'
          simp only [sqA, Act.eval, arr_getD, List.getD_cons_zero, List.getD_cons_succ]
          exact hK'
       iterate 8
        first
         | (apply Flow.pass rfl (by rfl))
         | (apply Flow.calmG _ rfl (by rfl)
            · intro w' hb'
              obtain ⟨hc', hf'⟩ := hb'.rule
              go_simp
              all_goals (try rfl))
        simp only [sqA]
        try go_ints
       -- a guarded mover
       apply Flow.move rfl
       go_wp2_with fail
       first | refine ⟨fun _ => Bl.refl _, ?_⟩ | refine ⟨Bl.refl _, ?_⟩
       first
        | (apply Flow.pass rfl (by rfl))
        | (apply Flow.calmG _ rfl (by rfl)
           · intro w' hb'
             obtain ⟨hc', hf'⟩ := hb'.rule
             go_simp
             all_goals (try rfl))
       simp only [sqA]
       try go_ints
       iterate 1
        apply Flow.calm2 _ _ rfl rfl
        · intro w' hb' K' hK'
          obtain ⟨hc', hf'⟩ := hb'.rule
          go_simp
          try go_ints
          exact hK'
        · intro K' hK'
          simp only [sqA]
          exact hK'
       refine Flow.done ?_
       go_wp2_with fail
       go_meet
       case rel => exact ⟨by rw [show BAD = true from by exact HX.out], (Bl.refl _).drew⟩
     | false =>
      cases h6 : (r.kind == 6) with
      | true =>
       have HX := Lib.hid (show BAD = true by rw [HB1.out, hmfa, h6]; rfl)
       refine wp_region_flow [(true, 0), (true, 1), (true, 2), (true, 3), (true, 4), (true, 5), (true, 6), (true, 7), (true, 8), (true, 9), (true, 11), (true, 12), (true, 13), (false, 10), (true, 14), (true, 15), (true, 16), (true, 17), (true, 18), (true, 19), (true, 20), (true, 21), (true, 22), (true, 23), (true, 24), (false, 25), (true, 26), (true, 27)] (fun _ => false) (by kernel_rfl) (by kernel_rfl) (by kernel_rfl) (by kernel_rfl) ?_
       iterate 3
        apply Flow.calm2 _ _ rfl rfl
        · intro w' hb' K' hK'
          obtain ⟨hc', hf'⟩ := hb'.rule
          go_simp
          try go_ints
          exact hK'
        · intro K' hK'
          simp only [sqA]
          exact hK'
       iterate 1
        apply Flow.mv _ rfl
        · intro K' hK'
          simp only [sqA, Act.eval, arr_getD, List.getD_cons_zero, List.getD_cons_succ]
          exact hK'
       iterate 9
        first
         | (apply Flow.pass rfl (by rfl))
         | (apply Flow.calmG _ rfl (by rfl)
            · intro w' hb'
              obtain ⟨hc', hf'⟩ := hb'.rule
              go_simp
              all_goals (try rfl))
        simp only [sqA]
        try go_ints
       -- a guarded mover
       apply Flow.move rfl
       go_wp2_with fail
       refine (show Calls Tryz.prog 79 #[.int .i64 fa.kind] _ fun e w' => e = .returned (.bool false) ∧ _ = w' from by rw [← hmfa]; exact marksR_any _ _).mono ?_
       rintro e w' ⟨rfl, rfl⟩
       go_wp2_with fail
       refine ⟨fun _ => (by first | exact HB1 | exact Bl.refl _), ?_⟩
       first
        | (apply Flow.pass rfl (by rfl))
        | (apply Flow.calmG _ rfl (by rfl)
           · intro w' hb'
             obtain ⟨hc', hf'⟩ := hb'.rule
             go_simp
             all_goals (try rfl))
       simp only [sqA]
       try go_ints
       iterate 1
        apply Flow.calm2 _ _ rfl rfl
        · intro w' hb' K' hK'
          obtain ⟨hc', hf'⟩ := hb'.rule
          go_simp
          try go_ints
          exact hK'
        · intro K' hK'
          simp only [sqA]
          exact hK'
       iterate 1
        apply Flow.mv _ rfl
        · intro K' hK'
          simp only [sqA, Act.eval, arr_getD, List.getD_cons_zero, List.getD_cons_succ]
          exact hK'
       iterate 8
        first
         | (apply Flow.pass rfl (by rfl))
         | (apply Flow.calmG _ rfl (by rfl)
            · intro w' hb'
              obtain ⟨hc', hf'⟩ := hb'.rule
              go_simp
              all_goals (try rfl))
        simp only [sqA]
        try go_ints
       -- a guarded mover
       apply Flow.move rfl
       go_wp2_with fail
       first | refine ⟨fun _ => Bl.refl _, ?_⟩ | refine ⟨Bl.refl _, ?_⟩
       first
        | (apply Flow.pass rfl (by rfl))
        | (apply Flow.calmG _ rfl (by rfl)
           · intro w' hb'
             obtain ⟨hc', hf'⟩ := hb'.rule
             go_simp
             all_goals (try rfl))
       simp only [sqA]
       try go_ints
       iterate 1
        apply Flow.calm2 _ _ rfl rfl
        · intro w' hb' K' hK'
          obtain ⟨hc', hf'⟩ := hb'.rule
          go_simp
          try go_ints
          exact hK'
        · intro K' hK'
          simp only [sqA]
          exact hK'
       refine Flow.done ?_
       go_wp2_with fail
       go_meet
       case rel => exact ⟨by rw [show BAD = true from by exact HX.out], (Bl.refl _).drew⟩
      | false =>
       have HX := Lib.hid (show BAD = false by rw [HB1.out, hmfa, h6]; rfl)
       refine wp_region_flow [(true, 0), (true, 1), (true, 2), (true, 3), (true, 4), (true, 5), (true, 6), (true, 7), (true, 8), (true, 9), (true, 11), (true, 12), (true, 13), (false, 10), (true, 14), (true, 15), (true, 16), (true, 17), (true, 18), (true, 19), (true, 20), (true, 21), (true, 22), (true, 23), (true, 24), (false, 25), (true, 26), (true, 27)] (fun _ => false) (by kernel_rfl) (by kernel_rfl) (by kernel_rfl) (by kernel_rfl) ?_
       iterate 3
        apply Flow.calm2 _ _ rfl rfl
        · intro w' hb' K' hK'
          obtain ⟨hc', hf'⟩ := hb'.rule
          go_simp
          try go_ints
          exact hK'
        · intro K' hK'
          simp only [sqA]
          exact hK'
       iterate 1
        apply Flow.mv _ rfl
        · intro K' hK'
          simp only [sqA, Act.eval, arr_getD, List.getD_cons_zero, List.getD_cons_succ]
          exact hK'
       iterate 9
        first
         | (apply Flow.pass rfl (by rfl))
         | (apply Flow.calmG _ rfl (by rfl)
            · intro w' hb'
              obtain ⟨hc', hf'⟩ := hb'.rule
              go_simp
              all_goals (try rfl))
        simp only [sqA]
        try go_ints
       -- a guarded mover
       apply Flow.move rfl
       go_wp2_with fail
       refine (show Calls Tryz.prog 79 #[.int .i64 fa.kind] _ fun e w' => e = .returned (.bool false) ∧ _ = w' from by rw [← hmfa]; exact marksR_any _ _).mono ?_
       rintro e w' ⟨rfl, rfl⟩
       go_wp2_with fail
       refine ⟨fun _ => (by first | exact HB1 | exact Bl.refl _), ?_⟩
       first
        | (apply Flow.pass rfl (by rfl))
        | (apply Flow.calmG _ rfl (by rfl)
           · intro w' hb'
             obtain ⟨hc', hf'⟩ := hb'.rule
             go_simp
             all_goals (try rfl))
       simp only [sqA]
       try go_ints
       iterate 1
        apply Flow.calm2 _ _ rfl rfl
        · intro w' hb' K' hK'
          obtain ⟨hc', hf'⟩ := hb'.rule
          go_simp
          try go_ints
          exact hK'
        · intro K' hK'
          simp only [sqA]
          exact hK'
       iterate 1
        apply Flow.mv _ rfl
        · intro K' hK'
          simp only [sqA, Act.eval, arr_getD, List.getD_cons_zero, List.getD_cons_succ]
          exact hK'
       iterate 8
        first
         | (apply Flow.pass rfl (by rfl))
         | (apply Flow.calmG _ rfl (by rfl)
            · intro w' hb'
              obtain ⟨hc', hf'⟩ := hb'.rule
              go_simp
              all_goals (try rfl))
        simp only [sqA]
        try go_ints
       -- a guarded mover
       apply Flow.move rfl
       go_wp2_with fail
       first | refine ⟨fun _ => Bl.refl _, ?_⟩ | refine ⟨Bl.refl _, ?_⟩
       first
        | (apply Flow.pass rfl (by rfl))
        | (apply Flow.calmG _ rfl (by rfl)
           · intro w' hb'
             obtain ⟨hc', hf'⟩ := hb'.rule
             go_simp
             all_goals (try rfl))
       simp only [sqA]
       try go_ints
       iterate 1
        apply Flow.calm2 _ _ rfl rfl
        · intro w' hb' K' hK'
          obtain ⟨hc', hf'⟩ := hb'.rule
          go_simp
          try go_ints
          exact hK'
        · intro K' hK'
          simp only [sqA]
          exact hK'
       refine Flow.done ?_
       go_wp2_with fail
       go_meet
       case rel => exact ⟨by rw [show BAD = false from by exact HX.out], (Bl.refl _).drew⟩
  | true =>
   obtain ⟨hk1, hk6⟩ := two_kind Htwo.out
   rcases firstG_kind Hib.out with ⟨hb0, hkb⟩ | ⟨jb, fb, rfl, hfb', hkb⟩
   · exact absurd hkb (Hsome.out r.other (by rw [names_two Htwo.out]; simp))
   obtain ⟨adF2, e2, i1, i2, i3, i4, i5, i6, i7, i8, i9⟩ := FldsAt.at_ (HF.out.flds.bl Hb3.out) hfb'
   obtain rfl := Option.some.inj e2
   have hjl2 := (List.getElem?_eq_some_iff.1 hfb').1
   have HB1 := Lib.hid (show BAD = (marksB fa.kind || marksB fb.kind) by rw [HBAD.out, names_two Htwo.out]; unfold kindBad; rw [List.any_cons, List.any_cons, Hka.out, hkb, decide_eq_false hk1, decide_eq_false hk6]; simp)
   have q1 : (r.kind != 1) = true := by simp [hk1]
   have h6 : (r.kind == 6) = false := by simp [hk6]
   clear hk1 hk6 hkb hfb' e2
   cases hmfa : marksB fa.kind with
   | true =>
    have HX := Lib.hid (show BAD = true by rw [HB1.out, hmfa]; rfl)
    refine wp_region_flow [(true, 0), (true, 1), (true, 2), (true, 3), (true, 4), (true, 5), (true, 6), (true, 7), (true, 8), (true, 9), (true, 11), (true, 12), (true, 13), (false, 10), (true, 14), (true, 15), (true, 16), (true, 17), (true, 18), (true, 19), (true, 20), (true, 21), (true, 22), (true, 23), (true, 24), (false, 25), (true, 26), (true, 27)] (fun _ => false) (by kernel_rfl) (by kernel_rfl) (by kernel_rfl) (by kernel_rfl) ?_
    iterate 3
     apply Flow.calm2 _ _ rfl rfl
     · intro w' hb' K' hK'
       obtain ⟨hc', hf'⟩ := hb'.rule
       go_simp
       try go_ints
       exact hK'
     · intro K' hK'
       simp only [sqA]
       exact hK'
    iterate 1
     apply Flow.mv _ rfl
     · intro K' hK'
       simp only [sqA, Act.eval, arr_getD, List.getD_cons_zero, List.getD_cons_succ]
       exact hK'
    iterate 9
     first
      | (apply Flow.pass rfl (by rfl))
      | (apply Flow.calmG _ rfl (by rfl)
         · intro w' hb'
           obtain ⟨hc', hf'⟩ := hb'.rule
           go_simp
           all_goals (try rfl))
     simp only [sqA]
     try go_ints
    -- a guarded mover
    apply Flow.move rfl
    go_wp2_with fail
    refine (show Calls Tryz.prog 79 #[.int .i64 fa.kind] _ fun e w' => e = .returned (.bool true) ∧ _ = w' from by rw [← hmfa]; exact marksR_any _ _).mono ?_
    rintro e w' ⟨rfl, rfl⟩
    go_wp2_with fail
    refine ⟨fun _ => (by first | exact HB1 | exact Bl.refl _), ?_⟩
    first
     | (apply Flow.pass rfl (by rfl))
     | (apply Flow.calmG _ rfl (by rfl)
        · intro w' hb'
          obtain ⟨hc', hf'⟩ := hb'.rule
          go_simp
          all_goals (try rfl))
    simp only [sqA]
    try go_ints
    iterate 1
     apply Flow.calm2 _ _ rfl rfl
     · intro w' hb' K' hK'
       obtain ⟨hc', hf'⟩ := hb'.rule
       go_simp
       try go_ints
       exact hK'
     · intro K' hK'
       simp only [sqA]
       exact hK'
    iterate 1
     apply Flow.mv _ rfl
     · intro K' hK'
       simp only [sqA, Act.eval, arr_getD, List.getD_cons_zero, List.getD_cons_succ]
       exact hK'
    iterate 8
     first
      | (apply Flow.pass rfl (by rfl))
      | (apply Flow.calmG _ rfl (by rfl)
         · intro w' hb'
           obtain ⟨hc', hf'⟩ := hb'.rule
           go_simp
           all_goals (try rfl))
     simp only [sqA]
     try go_ints
    -- a guarded mover
    apply Flow.move rfl
    go_wp2_with fail
    first | refine ⟨fun _ => Bl.refl _, ?_⟩ | refine ⟨Bl.refl _, ?_⟩
    first
     | (apply Flow.pass rfl (by rfl))
     | (apply Flow.calmG _ rfl (by rfl)
        · intro w' hb'
          obtain ⟨hc', hf'⟩ := hb'.rule
          go_simp
          all_goals (try rfl))
    simp only [sqA]
    try go_ints
    iterate 1
     apply Flow.calm2 _ _ rfl rfl
     · intro w' hb' K' hK'
       obtain ⟨hc', hf'⟩ := hb'.rule
       go_simp
       try go_ints
       exact hK'
     · intro K' hK'
       simp only [sqA]
       exact hK'
    refine Flow.done ?_
    go_wp2_with fail
    go_meet
    case rel => exact ⟨by rw [show BAD = true from by exact HX.out], (Bl.refl _).drew⟩
   | false =>
    cases hmfb : marksB fb.kind with
    | true =>
     have HX := Lib.hid (show BAD = true by rw [HB1.out, hmfa, hmfb]; rfl)
     refine wp_region_flow [(true, 0), (true, 1), (true, 2), (true, 3), (true, 4), (true, 5), (true, 6), (true, 7), (true, 8), (true, 9), (true, 11), (true, 12), (true, 13), (false, 10), (true, 14), (true, 15), (true, 16), (true, 17), (true, 18), (true, 19), (true, 20), (true, 21), (true, 22), (true, 23), (true, 24), (false, 25), (true, 26), (true, 27)] (fun _ => false) (by kernel_rfl) (by kernel_rfl) (by kernel_rfl) (by kernel_rfl) ?_
     iterate 3
      apply Flow.calm2 _ _ rfl rfl
      · intro w' hb' K' hK'
        obtain ⟨hc', hf'⟩ := hb'.rule
        go_simp
        try go_ints
        exact hK'
      · intro K' hK'
        simp only [sqA]
        exact hK'
     iterate 1
      apply Flow.mv _ rfl
      · intro K' hK'
        simp only [sqA, Act.eval, arr_getD, List.getD_cons_zero, List.getD_cons_succ]
        exact hK'
     iterate 9
      first
       | (apply Flow.pass rfl (by rfl))
       | (apply Flow.calmG _ rfl (by rfl)
          · intro w' hb'
            obtain ⟨hc', hf'⟩ := hb'.rule
            go_simp
            all_goals (try rfl))
      simp only [sqA]
      try go_ints
     -- a guarded mover
     apply Flow.move rfl
     go_wp2_with fail
     refine (show Calls Tryz.prog 79 #[.int .i64 fa.kind] _ fun e w' => e = .returned (.bool false) ∧ _ = w' from by rw [← hmfa]; exact marksR_any _ _).mono ?_
     rintro e w' ⟨rfl, rfl⟩
     go_wp2_with fail
     refine ⟨fun _ => (by first | exact HB1 | exact Bl.refl _), ?_⟩
     first
      | (apply Flow.pass rfl (by rfl))
      | (apply Flow.calmG _ rfl (by rfl)
         · intro w' hb'
           obtain ⟨hc', hf'⟩ := hb'.rule
           go_simp
           all_goals (try rfl))
     simp only [sqA]
     try go_ints
     iterate 1
      apply Flow.calm2 _ _ rfl rfl
      · intro w' hb' K' hK'
        obtain ⟨hc', hf'⟩ := hb'.rule
        go_simp
        try go_ints
        exact hK'
      · intro K' hK'
        simp only [sqA]
        exact hK'
     iterate 1
      apply Flow.mv _ rfl
      · intro K' hK'
        simp only [sqA, Act.eval, arr_getD, List.getD_cons_zero, List.getD_cons_succ]
        exact hK'
     iterate 8
      first
       | (apply Flow.pass rfl (by rfl))
       | (apply Flow.calmG _ rfl (by rfl)
          · intro w' hb'
            obtain ⟨hc', hf'⟩ := hb'.rule
            go_simp
            all_goals (try rfl))
      simp only [sqA]
      try go_ints
     -- a guarded mover
     apply Flow.move rfl
     go_wp2_with fail
     refine (show Calls Tryz.prog 79 #[.int .i64 fb.kind] _ fun e w' => e = .returned (.bool true) ∧ _ = w' from by rw [← hmfb]; exact marksR_any _ _).mono ?_
     rintro e w' ⟨rfl, rfl⟩
     go_wp2_with fail
     refine ⟨fun _ => (by first | exact HB2 | exact Bl.refl _), ?_⟩
     first
      | (apply Flow.pass rfl (by rfl))
      | (apply Flow.calmG _ rfl (by rfl)
         · intro w' hb'
           obtain ⟨hc', hf'⟩ := hb'.rule
           go_simp
           all_goals (try rfl))
     simp only [sqA]
     try go_ints
     iterate 1
      apply Flow.calm2 _ _ rfl rfl
      · intro w' hb' K' hK'
        obtain ⟨hc', hf'⟩ := hb'.rule
        go_simp
        try go_ints
        exact hK'
      · intro K' hK'
        simp only [sqA]
        exact hK'
     refine Flow.done ?_
     go_wp2_with fail
     go_meet
     case rel => exact ⟨by rw [show BAD = true from by exact HX.out], (Bl.refl _).drew⟩
    | false =>
     have HX := Lib.hid (show BAD = false by rw [HB1.out, hmfa, hmfb]; rfl)
     refine wp_region_flow [(true, 0), (true, 1), (true, 2), (true, 3), (true, 4), (true, 5), (true, 6), (true, 7), (true, 8), (true, 9), (true, 11), (true, 12), (true, 13), (false, 10), (true, 14), (true, 15), (true, 16), (true, 17), (true, 18), (true, 19), (true, 20), (true, 21), (true, 22), (true, 23), (true, 24), (false, 25), (true, 26), (true, 27)] (fun _ => false) (by kernel_rfl) (by kernel_rfl) (by kernel_rfl) (by kernel_rfl) ?_
     iterate 3
      apply Flow.calm2 _ _ rfl rfl
      · intro w' hb' K' hK'
        obtain ⟨hc', hf'⟩ := hb'.rule
        go_simp
        try go_ints
        exact hK'
      · intro K' hK'
        simp only [sqA]
        exact hK'
     iterate 1
      apply Flow.mv _ rfl
      · intro K' hK'
        simp only [sqA, Act.eval, arr_getD, List.getD_cons_zero, List.getD_cons_succ]
        exact hK'
     iterate 9
      first
       | (apply Flow.pass rfl (by rfl))
       | (apply Flow.calmG _ rfl (by rfl)
          · intro w' hb'
            obtain ⟨hc', hf'⟩ := hb'.rule
            go_simp
            all_goals (try rfl))
      simp only [sqA]
      try go_ints
     -- a guarded mover
     apply Flow.move rfl
     go_wp2_with fail
     refine (show Calls Tryz.prog 79 #[.int .i64 fa.kind] _ fun e w' => e = .returned (.bool false) ∧ _ = w' from by rw [← hmfa]; exact marksR_any _ _).mono ?_
     rintro e w' ⟨rfl, rfl⟩
     go_wp2_with fail
     refine ⟨fun _ => (by first | exact HB1 | exact Bl.refl _), ?_⟩
     first
      | (apply Flow.pass rfl (by rfl))
      | (apply Flow.calmG _ rfl (by rfl)
         · intro w' hb'
           obtain ⟨hc', hf'⟩ := hb'.rule
           go_simp
           all_goals (try rfl))
     simp only [sqA]
     try go_ints
     iterate 1
      apply Flow.calm2 _ _ rfl rfl
      · intro w' hb' K' hK'
        obtain ⟨hc', hf'⟩ := hb'.rule
        go_simp
        try go_ints
        exact hK'
      · intro K' hK'
        simp only [sqA]
        exact hK'
     iterate 1
      apply Flow.mv _ rfl
      · intro K' hK'
        simp only [sqA, Act.eval, arr_getD, List.getD_cons_zero, List.getD_cons_succ]
        exact hK'
     iterate 8
      first
       | (apply Flow.pass rfl (by rfl))
       | (apply Flow.calmG _ rfl (by rfl)
          · intro w' hb'
            obtain ⟨hc', hf'⟩ := hb'.rule
            go_simp
            all_goals (try rfl))
      simp only [sqA]
      try go_ints
     -- a guarded mover
     apply Flow.move rfl
     go_wp2_with fail
     refine (show Calls Tryz.prog 79 #[.int .i64 fb.kind] _ fun e w' => e = .returned (.bool false) ∧ _ = w' from by rw [← hmfb]; exact marksR_any _ _).mono ?_
     rintro e w' ⟨rfl, rfl⟩
     go_wp2_with fail
     refine ⟨fun _ => (by first | exact HB2 | exact Bl.refl _), ?_⟩
     first
      | (apply Flow.pass rfl (by rfl))
      | (apply Flow.calmG _ rfl (by rfl)
         · intro w' hb'
           obtain ⟨hc', hf'⟩ := hb'.rule
           go_simp
           all_goals (try rfl))
     simp only [sqA]
     try go_ints
     iterate 1
      apply Flow.calm2 _ _ rfl rfl
      · intro w' hb' K' hK'
        obtain ⟨hc', hf'⟩ := hb'.rule
        go_simp
        try go_ints
        exact hK'
      · intro K' hK'
        simp only [sqA]
        exact hK'
     refine Flow.done ?_
     go_wp2_with fail
     go_meet
     case rel => exact ⟨by rw [show BAD = false from by exact HX.out], (Bl.refl _).drew⟩
 case rest =>
 clear j1 j2 j3 j4 j5 j6 j7 j8 j9
 rename World => w4
 obtain ⟨rfl, hb4⟩ := hcut
 have Hb4 := Lib.hid (Hb3.out.trans hb4)
 have k1 := (w11.bl Hb4.out).all8
 have k2 := (w12.bl Hb4.out).all4
 clear hb4
 cases BAD with
 | true =>
  have HX := Lib.hid (show RE = 1 by rw [HE.out]; rfl)
  go_wp2_with fail
  go_ret
  exact ⟨by rw [HX.out]; rfl, HW1b.out.trans Hb4.out⟩
 | false =>
 have HE2 := Lib.hid (show RE = whenI TT 2 by rw [HE.out]; cases TT <;> rfl)
 go_upto_region 10 with fail
 obtain ⟨W0, hW0⟩ : ∃ b, b = ((!two && !o) || (!tk && !t)) := ⟨_, rfl⟩
 have HW0 := Lib.hid hW0
 clear hW0
 go_cut [9] from 77 to 93 (fun s wc => s = .bool W0 ∧ w4 = wc)
 case first =>
  rcases head_ways o two t tk with ⟨rfl, rfl⟩ | ⟨rfl | ⟨rfl, rfl⟩, ⟨rfl, rfl⟩ | rfl | ⟨rfl, rfl⟩⟩
  all_goals
   go_wp2_with fail
   go_meet
   case rel => exact ⟨by rw [HW0.out]; simp, rfl⟩
 case rest =>
 rename World => wd2
 obtain ⟨rfl, rfl⟩ := hcut
 have HT2 := Lib.hid (show TT = (W0 || (((r.kind == 3) && !wd) || ((r.kind == 6) && !nb))) by rw [HTT.out, HW0.out, Bool.or_assoc])
 obtain ⟨cE, hcE⟩ : ∃ b, b = decide (([] : List UInt8) ∈ wordsOf r.text) := ⟨_, rfl⟩
 obtain ⟨od, hod⟩ : ∃ b, b = r.text.any fun b => oddR b.toNat := ⟨_, rfl⟩
 have Hwd2 := Lib.hid (show wd = !(cE || od) by rw [← Hwd.out, words_two, hcE, hod])
 have hcf2 := Hcf.out
 rw [← hod] at hcf2
 have hct := fun (g c : Nat) wx (hr : Reads wx 1 (some ⟨g, 0, none⟩) (wordsOf r.text).length (strCells' (wordsOf r.text))) => containsS_any (some ⟨g, 0, none⟩) c (wordsOf r.text) [] wx hr (by have := wordsOf_num r.text; omega)
 rw [← hcE] at hct
 have Hcf2 := Lib.hid hcf2; have Hct := Lib.hid hct
 have hn3 := Hn2.out
 unfold CountRes at hn3
 simp only [Hnb.out] at hn3
 have Hn3 := Lib.hid hn3
 clear hcE hod hcf2 hct hn3
 cases hk3 : (r.kind == 3) with
 | true =>
  have hk6 : (r.kind == 6) = false := by
   have h3 : r.kind = 3 := by simpa using hk3
   rw [h3]; rfl
  rw [hk3, hk6] at HT2
  cases W0 with
  | true =>
   have HX := Lib.hid (show TT = true by rw [HT2.out]; rfl)
   go_wp2_with (go_at_call 10; refine (when_any _ _ _).mono ?_; rintro e w' ⟨rfl, rfl⟩)
   go_ret
   exact ⟨by rw [HE2.out, HX.out]; rfl, HW1b.out.trans (Hb4.out)⟩
  | false =>
   go_wp2_with fail
   refine (Hsp.out _ (HC.out.bl Hb4.out)).mono ?_
   rintro e w5 ⟨c5, rfl, hr5, hb5⟩
   have Hr5 := Lib.hid hr5; have Hb5 := Lib.hid (Hb4.out.trans hb5)
   have k2 := (w12.bl Hb5.out).all4
   clear hr5 hb5
   go_wp2_with fail
   refine (Hct.out _ _ _ Hr5.out).mono ?_
   rintro e w' ⟨rfl, rfl⟩
   cases cE with
   | true =>
    have HX := Lib.hid (show TT = true by rw [HT2.out]; rw [Hwd2.out]; rfl)
    go_wp2_with (go_at_call 10; refine (when_any _ _ _).mono ?_; rintro e w' ⟨rfl, rfl⟩)
    go_ret
    exact ⟨by rw [HE2.out, HX.out]; rfl, HW1b.out.trans (Hb5.out)⟩
   | false =>
    go_wp2_with fail
    refine (Hcf2.out _).mono ?_
    rintro e w6 ⟨rfl, hb6⟩
    have Hb6 := Lib.hid (Hb5.out.trans hb6)
    clear hb6
    cases od with
    | true =>
     have HX := Lib.hid (show TT = true by rw [HT2.out]; rw [Hwd2.out]; rfl)
     go_wp2_with (go_at_call 10; refine (when_any _ _ _).mono ?_; rintro e w' ⟨rfl, rfl⟩)
     go_ret
     exact ⟨by rw [HE2.out, HX.out]; rfl, HW1b.out.trans (Hb6.out)⟩
    | false =>
     have HX := Lib.hid (show TT = false by rw [HT2.out]; rw [Hwd2.out]; rfl)
     go_wp2_with (go_at_call 10; refine (when_any _ _ _).mono ?_; rintro e w' ⟨rfl, rfl⟩)
     go_ret
     exact ⟨by rw [HE2.out, HX.out]; rfl, HW1b.out.trans (Hb6.out)⟩
 | false =>
  rw [hk3] at HT2
  cases hk6 : (r.kind == 6) with
  | true =>
   rw [hk6] at HT2
   go_wp2_with fail
   refine (Hn3.out _).mono ?_
   rintro e w5 ⟨v5, rfl, -, hb5⟩
   have Hb5 := Lib.hid (Hb4.out.trans hb5)
   clear hb5
   cases W0 with
   | true =>
    have HX := Lib.hid (show TT = true by rw [HT2.out]; rfl)
    go_wp2_with (go_at_call 10; refine (when_any _ _ _).mono ?_; rintro e w' ⟨rfl, rfl⟩)
    go_ret
    exact ⟨by rw [HE2.out, HX.out]; rfl, HW1b.out.trans (Hb5.out)⟩
   | false =>
    cases nb with
    | true =>
     have HX := Lib.hid (show TT = false by rw [HT2.out]; rfl)
     go_wp2_with (go_at_call 10; refine (when_any _ _ _).mono ?_; rintro e w' ⟨rfl, rfl⟩)
     go_ret
     exact ⟨by rw [HE2.out, HX.out]; rfl, HW1b.out.trans (Hb5.out)⟩
    | false =>
     have HX := Lib.hid (show TT = true by rw [HT2.out]; rfl)
     go_wp2_with (go_at_call 10; refine (when_any _ _ _).mono ?_; rintro e w' ⟨rfl, rfl⟩)
     go_ret
     exact ⟨by rw [HE2.out, HX.out]; rfl, HW1b.out.trans (Hb5.out)⟩
  | false =>
   rw [hk6] at HT2
   cases W0 with
   | true =>
    have HX := Lib.hid (show TT = true by rw [HT2.out]; rfl)
    go_wp2_with (go_at_call 10; refine (when_any _ _ _).mono ?_; rintro e w' ⟨rfl, rfl⟩)
    go_ret
    exact ⟨by rw [HE2.out, HX.out]; rfl, HW1b.out.trans (Hb4.out)⟩
   | false =>
    have HX := Lib.hid (show TT = false by rw [HT2.out]; rfl)
    go_wp2_with (go_at_call 10; refine (when_any _ _ _).mono ?_; rintro e w' ⟨rfl, rfl⟩)
    go_ret
    exact ⟨by rw [HE2.out, HX.out]; rfl, HW1b.out.trans (Hb4.out)⟩
end Go.Proofs.YthobmednnocklaaGreatDoor
