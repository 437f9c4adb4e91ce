/- forms.checkField. -/
import Derived.Test.YtahfkahfaiidgaaGreatDoorMClaimForms19
import Derived.Test.YtahfkahfaiidgaaGreatDoorMClaimForms5
import Derived.Test.YtahfkahfaiidgaaGreatDoorMClaimForms9

namespace Go.Proofs.YtahfkahfaiidgaaGreatDoor
open Go.RowKit

theorem ink_mem {bs : List Bool} {W H : Nat} {is : Bool} {X Y BW BH : Int} (h : BoundsIs bs W H is X Y BW BH) (hl : bs.length = W * H) : is = decide (true ∈ bs) := by
  rw [inkB_is h]
  unfold inkB
  refine decide_eq_decide.2 ⟨fun h0 => ?_, fun hm => ?_⟩
  · apply Classical.byContradiction
    intro hn
    have : (spotL bs (W * H)).length = 0 := spotL_none.2 fun i hi => by
      cases hb : bs.getD i false with
      | false => rfl
      | true =>
        rw [List.getD_eq_getElem?_getD] at hb
        cases hx : bs[i]? with
        | none => rw [hx] at hb; cases hb
        | some v =>
          rw [hx] at hb
          have hv : v = true := hb
          subst hv
          exact absurd (List.mem_of_getElem? hx) hn
    omega
  · obtain ⟨i, hi⟩ := List.getElem?_of_mem hm
    have hlt := (List.getElem?_eq_some_iff.1 hi).1
    rcases Nat.eq_zero_or_pos (spotL bs (W * H)).length with h0 | h0
    · have := spotL_none.1 h0 i (by omega)
      rw [List.getD_eq_getElem?_getD, hi] at this
      cases this
    · exact h0
set_option maxRecDepth 100000 in
set_option maxHeartbeats 2000000 in
theorem checkAnchor_any (f : Frm) (a : Anc) (W H : Nat) (w : World) (hfW : f.W = (W : Int)) (hfH : f.H = (H : Int)) (hW : 1 ≤ W ∧ W ≤ 4000) (hH : 1 ≤ H ∧ H ≤ 4000) (hA : Reads w 1 a.A a.m (a.bs.map .bool)) :
    Calls Tryz.prog 57 #[f.val, a.val] w fun e w' => e = .returned (.int .i64 (ancErr W H a)) ∧ Bl w w' := by
  obtain ⟨nm, fW, fH, reach, dark, AL, ac, la, FL, fc, lf, RL, rc, lr⟩ := f
  simp only at hfW hfH
  subst hfW hfH
  let w1 := ((w).alloc (.cells #[.string ⟨nm.toArray⟩, .int .i64 W, .int .i64 H, .int .i64 reach, .int .i64 dark, .slice AL la.length ac, .slice FL lf.length fc, .slice RL lr.length rc] 26)).alloc (.cells #[.int .i64 a.W, .int .i64 a.H, .slice a.A a.m a.c, .int .i64 a.X, .int .i64 a.Y] 60)
  have w1b : Bl w w1 := ((Bl.refl w).alloc _).alloc _
  have w11 : Blk w1 (w.heap.size) 26 #[.string ⟨nm.toArray⟩, .int .i64 W, .int .i64 H, .int .i64 reach, .int .i64 dark, .slice AL la.length ac, .slice FL lf.length fc, .slice RL lr.length rc] := by
    have h0 := Blk.new (w) 26 #[.string ⟨nm.toArray⟩, .int .i64 W, .int .i64 H, .int .i64 reach, .int .i64 dark, .slice AL la.length ac, .slice FL lf.length fc, .slice RL lr.length rc]
    exact (h0.alloc _)
  have w12 : Blk w1 (w.heap.size + 1) 60 #[.int .i64 a.W, .int .i64 a.H, .slice a.A a.m a.c, .int .i64 a.X, .int .i64 a.Y] := by
    have h0 := Blk.new ((w).alloc (.cells #[.string ⟨nm.toArray⟩, .int .i64 W, .int .i64 H, .int .i64 reach, .int .i64 dark, .slice AL la.length ac, .slice FL lf.length fc, .slice RL lr.length rc] 26)) 60 #[.int .i64 a.W, .int .i64 a.H, .slice a.A a.m a.c, .int .i64 a.X, .int .i64 a.Y]
    simp only [World.size_alloc] at h0
    exact h0
  have hbd := bounds_any a.W a.H a.A a.m a.c a.bs w1 (hA.bl w1b)
  have hbl : a.bs.length = a.m := by have := hA.1; simpa using this
  have Hbd := Lib.hid hbd; have Hbl := Lib.hid hbl
  have k1 := w11.all8
  have k2 := w12.all5
  obtain ⟨AE, hAE⟩ : ∃ x, x = ancErr W H a := ⟨_, rfl⟩
  rw [← hAE]
  have HAE := Lib.hid hAE
  unfold Frm.val Anc.val
  clear hA hbd hbl hAE
  go_enter Tryz.func57, Tryz.ntmps57
  go_wp2_with fail
  refine Hbd.out.mono ?_
  rintro e w2 ⟨X, Y, BW, BH, err, rfl, he1, he2, hb2⟩
  have HE1 := Lib.hid he1; have HE2 := Lib.hid he2
  clear he1 he2
  have B1 := Lib.hid (w11.bl hb2); have B2 := Lib.hid (w12.bl hb2)
  have Hb2 := Lib.hid (w1b.trans hb2)
  have k1 := B1.out.all8
  have k2 := B2.out.all5
  clear hb2
  by_cases hp : pageErr a.W a.H a.m = 0
  · obtain ⟨is, hbi, rfl⟩ := HE2.out hp
    obtain ⟨W', H', q1, q2, q3, -, -, -⟩ := page_nat hp
    have his : is = decide (true ∈ a.bs) := ink_mem hbi (by rw [Hbl.out, q3, q1, q2, Int.toNat_natCast, Int.toNat_natCast])
    have hanc : ancErr W H a = if is = true then whenI (!a.box.inP W H) 13 else 10 := by
      unfold ancErr
      rw [hp, ← his]
      cases is
      · rfl
      · cases hc : a.box.inP W H <;> rfl
    have Hanc := Lib.hid (HAE.out.trans hanc)
    clear hanc his hbi hp q1 q2 q3
    cases is
    · go_wp2_with fail
      go_ret
      exact ⟨by rw [Hanc.out]; rfl, Hb2.out.alloc _⟩
    · have hbx := fun wx => anchorBox_any a wx
      unfold Anc.val Bx.val at hbx
      have hin := fun wx => inPage_any a.X a.Y a.W a.H W H wx hW hH
      have Hbx := Lib.hid hbx; have Hin := Lib.hid hin
      clear hbx hin
      go_upto_region 4 with fail
      obtain ⟨w3, hw3⟩ : ∃ x, x = w2.alloc (.cells #[.int .i64 X, .int .i64 Y, .int .i64 BW, .int .i64 BH] 79) := ⟨_, rfl⟩
      have hb23 : Bl w2 w3 := by rw [hw3]; exact (Bl.refl _).alloc _
      rw [← hw3]
      have k1 := (B1.out.bl hb23).all8
      have k2 := (B2.out.bl hb23).all5
      have Hb3 := Lib.hid (Hb2.out.trans hb23)
      clear hw3 hb23
      refine wp_region_flow [(true, 0), (true, 2), (true, 3), (true, 4), (true, 5), (false, 1), (false, 6), (true, 7)] (fun _ => false) (by kernel_rfl) (by kernel_rfl) (by kernel_rfl) (by kernel_rfl) ?_
      iterate 1
        apply Flow.calm2 _ _ rfl rfl
        · intro w' hb' K' hK'
          obtain ⟨hc', hf'⟩ := hb'.rule
          go_simp
          try go_ints
          exact hK'
        · intro K' hK'
          simp only [Act.put, List.setIfInBounds_toArray, List.set_cons_zero, List.set_cons_succ]
          exact hK'
      iterate 1
        apply Flow.calm2 _ _ rfl rfl
        · intro w' hb' K' hK'
          obtain ⟨hc', hf'⟩ := hb'.rule
          go_simp
          try go_ints
          exact hK'
        · intro K' hK'
          simp only [Act.put, List.setIfInBounds_toArray, List.set_cons_zero, List.set_cons_succ]
          exact hK'
      iterate 1
        apply Flow.calm2 _ _ rfl rfl
        · intro w' hb' K' hK'
          obtain ⟨hc', hf'⟩ := hb'.rule
          go_simp
          try go_ints
          exact hK'
        · intro K' hK'
          simp only [Act.put, List.setIfInBounds_toArray, List.set_cons_zero, List.set_cons_succ]
          exact hK'
      iterate 1
        apply Flow.calm2 _ _ rfl rfl
        · intro w' hb' K' hK'
          obtain ⟨hc', hf'⟩ := hb'.rule
          go_simp
          try go_ints
          exact hK'
        · intro K' hK'
          simp only [Act.put, List.setIfInBounds_toArray, List.set_cons_zero, List.set_cons_succ]
          exact hK'
      iterate 1
        apply Flow.calm2 _ _ rfl rfl
        · intro w' hb' K' hK'
          obtain ⟨hc', hf'⟩ := hb'.rule
          go_simp
          try go_ints
          exact hK'
        · intro K' hK'
          simp only [Act.put, List.setIfInBounds_toArray, List.set_cons_zero, List.set_cons_succ]
          exact hK'
      apply Flow.move rfl
      go_wp2_with fail
      refine (Hbx.out _).mono ?_
      rintro e w4 ⟨rfl, HB1⟩
      go_wp2_with fail
      refine ⟨fun _ => (by first | exact HB1 | exact Bl.refl _), ?_⟩
      apply Flow.move rfl
      go_wp2_with fail
      refine (Hin.out _).mono ?_
      rintro e w5 ⟨rfl, HB2⟩
      go_wp2_with fail
      refine ⟨fun _ => (by first | exact HB2 | exact Bl.refl _), ?_⟩
      iterate 1
        apply Flow.asg _ rfl
        · intro K' hK'
          simp only [Act.put, Act.eval, List.setIfInBounds_toArray, List.set_cons_zero, List.set_cons_succ, arr_getD, List.getD_cons_zero, List.getD_cons_succ]
          exact hK'
      refine Flow.done ?_
      go_wp2_with fail
      go_ret
      exact ⟨by rw [Hanc.out]; rfl, Hb3.out.trans ((Bl.ofDrew HB1).trans HB2)⟩
  · obtain ⟨rfl, -⟩ := HE1.out hp
    have hq : (pageErr a.W a.H a.m != 0) = true := by simp [hp]
    have hanc : ancErr W H a = pageErr a.W a.H a.m := by
      unfold ancErr
      simp only [firstNZ, if_neg hp]
    have Hanc := Lib.hid (HAE.out.trans hanc)
    clear hanc hp
    go_wp2_with fail
    go_ret
    exact ⟨by rw [Hanc.out]; rfl, Hb2.out.alloc _⟩
end Go.Proofs.YtahfkahfaiidgaaGreatDoor


/-! forms.checkField. -/
namespace Go.Proofs.YtahfkahfaiidgaaGreatDoor
open Go.RowKit

theorem places_no {W H : Int} {l : List Bx} (h : ∀ b ∈ l, b.inP W H = true) : placesErr W H l = 0 := by
  unfold placesErr
  have : (l.any fun b => !b.inP W H) = false := by
    rw [List.any_eq_false]
    intro b hb
    rw [h b hb]
    decide
  rw [this]
  rfl
theorem places_bad {W H : Int} {l : List Bx} {b : Bx} (hb : b ∈ l) (h : b.inP W H = false) : placesErr W H l = 13 := by
  unfold placesErr
  have : (l.any fun b => !b.inP W H) = true := List.any_eq_true.2 ⟨b, hb, by rw [h]; rfl⟩
  rw [this]
  rfl
set_option maxRecDepth 100000 in
theorem neq_bx (a b : Bx) (w : World) : (binOp .neq 79 (.agg #[.int .i64 a.X, .int .i64 a.Y, .int .i64 a.W, .int .i64 a.H]) (.agg #[.int .i64 b.X, .int .i64 b.Y, .int .i64 b.W, .int .i64 b.H])).run Tryz.prog w = .ok (.bool (!decide (a = b))) w := by
  obtain ⟨a1, a2, a3, a4⟩ := a
  obtain ⟨b1, b2, b3, b4⟩ := b
  have key : decide ((⟨a1, a2, a3, a4⟩ : Bx) = ⟨b1, b2, b3, b4⟩) = ((a1 == b1) && ((a2 == b2) && ((a3 == b3) && (a4 == b4)))) := by
    rw [Bool.eq_iff_iff]
    simp [Bx.mk.injEq]
  rw [key]
  have un := Tryz.underlying3
  have ag := Tryz.isAgg3
  have sz := Tryz.sizeOf3
  rw [run_neq_struct, show (10000 : Nat) = 9999 + 1 from rfl, run_equalIn_agg w 9999 _ _ _ (by kernel_rfl) (by kernel_rfl)]
  simp only [Program.fieldsOf, Tryz.underlying79]
  cases h1 : (a1 == b1) <;> cases h2 : (a2 == b2) <;> cases h3 : (a3 == b3) <;> cases h4 : (a4 == b4) <;> go_simp
/-- What comes behind the marks' places. -/
def fldTail (x : Fld) : Int := firstNZ [whenI (!inB x.most 0 1000) 3, whenI (!decide (x.kind = 1) && !decide (x.most = 0)) 2]
theorem fldE_tail {W H : Int} {tw : Bool} {x : Fld} (h1 : nameB x.name = true) (h2 : tw = false) (h3 : inB x.kind 1 4 = true) (h4 : (if marksB x.kind then whenI (!decide (x.box = Bx.zero)) 2 else whenI (!x.box.inP W H) 13) = 0) (h5 : marksB x.kind = decide (0 < x.marks.length)) (h6 : ¬ 20 < x.marks.length) (h7 : placesErr W H x.marks = 0) : fldE W H tw x = fldTail x := by
  unfold fldE fldTail
  rw [h1, h2, h3, h4, h5, decide_eq_false h6, h7]
  simp only [firstNZ, whenI, Bool.not_true, bne_self_eq_false, Bool.false_eq_true, if_false, if_true]
theorem fldE_place {W H : Int} {tw : Bool} {x : Fld} (h1 : nameB x.name = true) (h2 : tw = false) (h3 : inB x.kind 1 4 = true) (h4 : (if marksB x.kind then whenI (!decide (x.box = Bx.zero)) 2 else whenI (!x.box.inP W H) 13) = 0) (h5 : marksB x.kind = decide (0 < x.marks.length)) (h6 : ¬ 20 < x.marks.length) (h7 : placesErr W H x.marks = 13) : fldE W H tw x = 13 := by
  unfold fldE
  rw [h1, h2, h3, h4, h5, decide_eq_false h6, h7]
  simp only [firstNZ, whenI, Bool.not_true, bne_self_eq_false, Bool.false_eq_true, if_false, if_true]
  rfl

set_option maxRecDepth 100000 in
set_option maxHeartbeats 4000000 in
theorem checkField_any (f : Frm) (x : Fld) (tw : Bool) (W H : Nat) (w : World) (hfW : f.W = (W : Int)) (hfH : f.H = (H : Int)) (hW : 1 ≤ W ∧ W ≤ 4000) (hH : 1 ≤ H ∧ H ≤ 4000) (hM : BxsAt w x.M x.marks) (hnm : x.name.length ≤ 9223372036854775807) (hml : x.marks.length ≤ 9223372036854775807) :
    Calls Tryz.prog 59 #[f.val, x.val, .bool tw] w fun e w' => e = .returned (.int .i64 (fldE W H tw x)) ∧ Bl w w' := by
  obtain ⟨nm, fW, fH, reach, dark, AL, ac, la, FL, fc, lf, RL, rc, lr⟩ := f
  simp only at hfW hfH
  subst hfW hfH
  obtain ⟨FE, hFE⟩ : ∃ y, y = fldE W H tw x := ⟨_, rfl⟩
  rw [← hFE]
  have HFE := Lib.hid hFE
  let w1 := ((w).alloc (.cells #[.string ⟨nm.toArray⟩, .int .i64 W, .int .i64 H, .int .i64 reach, .int .i64 dark, .slice AL la.length ac, .slice FL lf.length fc, .slice RL lr.length rc] 26)).alloc (.cells #[.string ⟨x.name.toArray⟩, .int .i64 x.kind, .int .i64 x.box.X, .int .i64 x.box.Y, .int .i64 x.box.W, .int .i64 x.box.H, .slice x.M x.marks.length x.mc, .int .i64 x.most, .bool x.needed] 82)
  have w1b : Bl w w1 := ((Bl.refl w).alloc _).alloc _
  have w11 : Blk w1 (w.heap.size) 26 #[.string ⟨nm.toArray⟩, .int .i64 W, .int .i64 H, .int .i64 reach, .int .i64 dark, .slice AL la.length ac, .slice FL lf.length fc, .slice RL lr.length rc] := by
    have h0 := Blk.new (w) 26 #[.string ⟨nm.toArray⟩, .int .i64 W, .int .i64 H, .int .i64 reach, .int .i64 dark, .slice AL la.length ac, .slice FL lf.length fc, .slice RL lr.length rc]
    exact (h0.alloc _)
  have w12 : Blk w1 (w.heap.size + 1) 82 #[.string ⟨x.name.toArray⟩, .int .i64 x.kind, .int .i64 x.box.X, .int .i64 x.box.Y, .int .i64 x.box.W, .int .i64 x.box.H, .slice x.M x.marks.length x.mc, .int .i64 x.most, .bool x.needed] := by
    have h0 := Blk.new ((w).alloc (.cells #[.string ⟨nm.toArray⟩, .int .i64 W, .int .i64 H, .int .i64 reach, .int .i64 dark, .slice AL la.length ac, .slice FL lf.length fc, .slice RL lr.length rc] 26)) 82 #[.string ⟨x.name.toArray⟩, .int .i64 x.kind, .int .i64 x.box.X, .int .i64 x.box.Y, .int .i64 x.box.W, .int .i64 x.box.H, .slice x.M x.marks.length x.mc, .int .i64 x.most, .bool x.needed]
    simp only [World.size_alloc] at h0
    exact h0
  have HM := Lib.hid (hM.bl w1b)
  have hin := fun wx => isName_any ⟨x.name.toArray⟩ wx (by rw [Lib.size_mk]; exact hnm)
  have hip := fun wx => inPage_any x.box.X x.box.Y x.box.W x.box.H W H wx hW hH
  have him := fun (b : Bx) wx => inPage_any b.X b.Y b.W b.H W H wx hW hH
  have Hin := Lib.hid hin; have Hip := Lib.hid hip; have Him := Lib.hid him
  have k1 := w11.all8
  have k2 := w12.all9
  unfold Frm.val Fld.val
  clear hM hin hip him hFE
  go_enter Tryz.func59, Tryz.ntmps59
  go_wp2_with fail
  refine (hasMarks_any _ _).mono ?_
  rintro e w' ⟨rfl, rfl⟩
  go_wp2_with fail
  refine (Hin.out _).mono ?_
  rintro e w2 ⟨rfl, hb2⟩
  have B1 := Lib.hid (w11.bl hb2); have B2 := Lib.hid (w12.bl hb2)
  have Hb2 := Lib.hid (w1b.trans hb2); have Hb12 := Lib.hid hb2
  have k1 := B1.out.all8
  have k2 := B2.out.all9
  clear hb2
  obtain ⟨mk, hmk⟩ : ∃ y, y = marksB x.kind := ⟨_, rfl⟩
  rw [← hmk]
  have Hmk := Lib.hid hmk
  clear hmk
  cases hN : nameB x.name with
  | false =>
    have HX := Lib.hid (show fldE W H tw x = 5 by unfold fldE; rw [hN]; rfl)
    clear hN
    go_wp2_with fail
    go_ret
    exact ⟨by rw [HFE.out, HX.out]; rfl, Hb2.out⟩
  | true =>
  have HNm := Lib.hid hN
  clear hN
  cases tw with
  | true =>
    have HX := Lib.hid (show fldE W H true x = 6 by unfold fldE; rw [HNm.out]; rfl)
    go_wp2_with fail
    go_ret
    exact ⟨by rw [HFE.out, HX.out]; rfl, Hb2.out⟩
  | false =>
  by_cases hk1 : x.kind < 1
  · have HX := Lib.hid (show fldE W H false x = 1 by unfold fldE; rw [HNm.out, inB_false.2 (.inl hk1)]; rfl)
    go_wp2_with fail
    go_ret
    exact ⟨by rw [HFE.out, HX.out]; rfl, Hb2.out⟩
  by_cases hk4 : 4 < x.kind
  · have HX := Lib.hid (show fldE W H false x = 1 by unfold fldE; rw [HNm.out, inB_false.2 (.inr hk4)]; rfl)
    go_wp2_with fail
    go_ret
    exact ⟨by rw [HFE.out, HX.out]; rfl, Hb2.out⟩
  have HK := Lib.hid (inB_true.2 (show 1 ≤ x.kind ∧ x.kind ≤ 4 by omega))
  go_upto_region 8 with fail
  cases mk with
  | false =>
    cases hip : x.box.inP W H with
    | false =>
      have HX := Lib.hid (show fldE W H false x = 13 by unfold fldE; rw [HNm.out, HK.out, ← Hmk.out, hip]; rfl)
      have Hip2 := Lib.hid (show inPageB x.box.X x.box.Y x.box.W x.box.H W H = false from hip)
      clear hip
      go_wp2_with fail
      refine (Hip.out _).mono ?_
      rintro e w3 ⟨rfl, hb3⟩
      rw [Hip2.out]
      go_wp2_with fail
      go_ret
      exact ⟨by rw [HFE.out, HX.out]; rfl, Hb2.out.trans hb3⟩
    | true =>
      have Hip2 := Lib.hid (show inPageB x.box.X x.box.Y x.box.W x.box.H W H = true from hip)
      have H4 := Lib.hid (show (if marksB x.kind then whenI (!decide (x.box = Bx.zero)) 2 else whenI (!x.box.inP W H) 13) = 0 by rw [← Hmk.out, hip]; rfl)
      clear hip
      go_wp2_with fail
      refine (Hip.out _).mono ?_
      rintro e w3 ⟨rfl, hb3⟩
      rw [Hip2.out]
      have HX1 := Lib.hid (B1.out.bl hb3); have HX2 := Lib.hid (B2.out.bl hb3); have HW := Lib.hid (Hb12.out.trans hb3); have Hb3 := Lib.hid (Hb2.out.trans hb3)
      have k1 := HX1.out.all8
      have k2 := HX2.out.all9
      clear hb3
      go_upto_region 10 with fail
      by_cases hl0 : 0 < x.marks.length
      · have hl0i : 0 < (x.marks.length : Int) := by omega
        have HX := Lib.hid (show fldE W H false x = 2 by unfold fldE; rw [HNm.out, HK.out, H4.out, ← Hmk.out, decide_eq_true hl0]; rfl)
        go_wp2_with fail
        go_ret
        exact ⟨by rw [HFE.out, HX.out]; rfl, Hb3.out⟩
      · have hl0i : ¬ 0 < (x.marks.length : Int) := by omega
        have H5 := Lib.hid (show marksB x.kind = decide (0 < x.marks.length) by rw [← Hmk.out, decide_eq_false hl0])
        by_cases h20 : 20 < x.marks.length
        · exact absurd h20 (by omega)
        · have h20i : ¬ 20 < (x.marks.length : Int) := by omega
          have H20 := Lib.hid h20
          clear h20
          go_wp2_with fail
          go_loopw [65] (fun v wr => ∃ i : Nat, i ≤ x.marks.length ∧ v = .int .i64 i ∧ Bl w3 wr ∧ ∀ j b, j < i → x.marks[j]? = some b → b.inP W H = true) (fun v _ => x.marks.length - (RowKit.intOf v).toNat)
          case atStart => exact ⟨0, Nat.zero_le _, rfl, Bl.refl _, fun j b hj => absurd hj (Nat.not_lt_zero _)⟩
          case round =>
            obtain ⟨i, hi, rfl, hbr, hall⟩ := hrel
            have HAll := Lib.hid hall; have Hbr := Lib.hid hbr
            have k1 := (HX1.out.bl hbr).all8
            have k2 := (HX2.out.bl hbr).all9
            clear hall hbr
            by_cases hlt : i < x.marks.length
            · exact absurd hlt (by omega)
            · obtain rfl : i = x.marks.length := by omega
              have hpl : placesErr W H x.marks = 0 := places_no fun b hb => by
                obtain ⟨j, hj⟩ := List.getElem?_of_mem hb
                exact HAll.out j b (List.getElem?_eq_some_iff.1 hj).1 hj
              have HT := Lib.hid (HFE.out.trans (fldE_tail (tw := false) HNm.out rfl HK.out H4.out H5.out H20.out hpl))
              clear hpl
              by_cases m0 : x.most < 0
              · have HX := Lib.hid (show fldTail x = 3 by unfold fldTail; rw [inB_false.2 (.inl m0)]; rfl)
                go_wp2_with fail
                go_ret
                exact ⟨by rw [HT.out, HX.out]; rfl, (Hb3.out).trans Hbr.out⟩
              by_cases m1 : 1000 < x.most
              · have HX := Lib.hid (show fldTail x = 3 by unfold fldTail; rw [inB_false.2 (.inr m1)]; rfl)
                go_wp2_with fail
                go_ret
                exact ⟨by rw [HT.out, HX.out]; rfl, (Hb3.out).trans Hbr.out⟩
              have hmi := inB_true.2 (show 0 ≤ x.most ∧ x.most ≤ 1000 by omega)
              by_cases c1 : x.kind = 1
              · have HX := Lib.hid (show fldTail x = 0 by unfold fldTail; rw [hmi, decide_eq_true c1]; rfl)
                have q1 : (x.kind != 1) = false := by simp [c1]
                clear hmi c1
                go_wp2_with fail
                go_ret
                exact ⟨by rw [HT.out, HX.out]; rfl, (Hb3.out).trans Hbr.out⟩
              have q1 : (x.kind != 1) = true := by simp [c1]
              by_cases c2 : x.most = 0
              · have HX := Lib.hid (show fldTail x = 0 by unfold fldTail; rw [hmi, decide_eq_false c1, decide_eq_true c2]; rfl)
                have q2 : (x.most != 0) = false := by simp [c2]
                clear hmi c1 c2
                go_wp2_with fail
                go_ret
                exact ⟨by rw [HT.out, HX.out]; rfl, (Hb3.out).trans Hbr.out⟩
              · have HX := Lib.hid (show fldTail x = 2 by unfold fldTail; rw [hmi, decide_eq_false c1, decide_eq_false c2]; rfl)
                have q2 : (x.most != 0) = true := by simp [c2]
                clear hmi c1 c2
                go_wp2_with fail
                go_ret
                exact ⟨by rw [HT.out, HX.out]; rfl, (Hb3.out).trans Hbr.out⟩
  | true =>
    have hne0 := fun w' => neq_bx x.box ⟨0, 0, 0, 0⟩ w'
    by_cases hz : x.box = ⟨0, 0, 0, 0⟩
    · rw [decide_eq_true hz] at hne0
      have hne := hne0
      simp only [Bool.not_true] at hne
      clear hne0
      have H4 := Lib.hid (show (if marksB x.kind then whenI (!decide (x.box = Bx.zero)) 2 else whenI (!x.box.inP W H) 13) = 0 by rw [← Hmk.out, if_pos rfl, decide_eq_true (show x.box = Bx.zero from hz)]; rfl)
      have HX1 := Lib.hid B1.out; have HX2 := Lib.hid B2.out; have HW := Lib.hid Hb12.out
      clear hz
      go_upto_region 10 with fail
      by_cases hl0 : 0 < x.marks.length
      · have hl0i : 0 < (x.marks.length : Int) := by omega
        have H5 := Lib.hid (show marksB x.kind = decide (0 < x.marks.length) by rw [← Hmk.out, decide_eq_true hl0])
        by_cases h20 : 20 < x.marks.length
        · have h20i : 20 < (x.marks.length : Int) := by omega
          have HX := Lib.hid (show fldE W H false x = 4 by unfold fldE; rw [HNm.out, HK.out, H4.out, H5.out, decide_eq_true h20]; simp [firstNZ, whenI])
          go_wp2_with fail
          go_ret
          exact ⟨by rw [HFE.out, HX.out]; rfl, Hb2.out⟩
        · have h20i : ¬ 20 < (x.marks.length : Int) := by omega
          have H20 := Lib.hid h20
          clear h20
          go_wp2_with fail
          go_loopw [65] (fun v wr => ∃ i : Nat, i ≤ x.marks.length ∧ v = .int .i64 i ∧ Bl w2 wr ∧ ∀ j b, j < i → x.marks[j]? = some b → b.inP W H = true) (fun v _ => x.marks.length - (RowKit.intOf v).toNat)
          case atStart => exact ⟨0, Nat.zero_le _, rfl, Bl.refl _, fun j b hj => absurd hj (Nat.not_lt_zero _)⟩
          case round =>
            obtain ⟨i, hi, rfl, hbr, hall⟩ := hrel
            have HAll := Lib.hid hall; have Hbr := Lib.hid hbr
            have k1 := (HX1.out.bl hbr).all8
            have k2 := (HX2.out.bl hbr).all9
            clear hall hbr
            by_cases hlt : i < x.marks.length
            · have hg : x.marks[i]? = some x.marks[i] := List.getElem?_eq_getElem hlt
              obtain ⟨b, hb⟩ : ∃ l, l = x.marks[i] := ⟨_, rfl⟩
              rw [← hb] at hg
              obtain ⟨ad, e1, j1, j2, j3, j4⟩ := BxsAt.at_ ((HM.out.bl HW.out).bl Hbr.out) hg
              have HG := Lib.hid hg
              clear hg hb
              rw [e1] at k2 ⊢
              go_upto_region 18 with fail
              obtain ⟨w4, hw4⟩ : ∃ y, y = wr.alloc (.cells #[.int .i64 b.X, .int .i64 b.Y, .int .i64 b.W, .int .i64 b.H] 79) := ⟨_, rfl⟩
              have b4 : Blk w4 wr.heap.size 79 #[.int .i64 b.X, .int .i64 b.Y, .int .i64 b.W, .int .i64 b.H] := by rw [hw4]; exact Blk.new _ _ _
              have hb4 : Bl wr w4 := by rw [hw4]; exact (Bl.refl _).alloc _
              rw [← hw4]
              have k3 := b4.all4
              have k1 := (HX1.out.bl (Hbr.out.trans hb4)).all8
              have Hb4 := Lib.hid hb4
              clear hw4 b4 j1 j2 j3 j4 hb4
              go_wp2_with fail
              refine (Him.out b _).mono ?_
              rintro e w5 ⟨rfl, hb5⟩
              have Hb5 := Lib.hid (Hbr.out.trans (Hb4.out.trans hb5))
              clear hb5 k3
              cases hip : b.inP W H with
              | false =>
                have HX := Lib.hid (fldE_place (tw := false) HNm.out rfl HK.out H4.out H5.out H20.out (places_bad (List.mem_of_getElem? HG.out) hip))
                rw [show inPageB b.X b.Y b.W b.H W H = false from hip]
                clear hip
                go_wp2_with fail
                go_ret
                exact ⟨by rw [HFE.out, HX.out]; rfl, (Hb2.out).trans Hb5.out⟩
              | true =>
                have Hi := Lib.hid hip
                rw [show inPageB b.X b.Y b.W b.H W H = true from hip]
                clear hip
                go_wp2_with fail
                exact ⟨⟨i + 1, hlt, by go_num, Hb5.out, fun j b' hj hb' => by
                  rcases Nat.lt_succ_iff_lt_or_eq.1 hj with h | rfl
                  · exact HAll.out j b' h hb'
                  · rw [HG.out] at hb'
                    obtain rfl := Option.some.inj hb'
                    exact Hi.out⟩, by simp [RowKit.intOf]; omega⟩
            · obtain rfl : i = x.marks.length := by omega
              have hpl : placesErr W H x.marks = 0 := places_no fun b hb => by
                obtain ⟨j, hj⟩ := List.getElem?_of_mem hb
                exact HAll.out j b (List.getElem?_eq_some_iff.1 hj).1 hj
              have HT := Lib.hid (HFE.out.trans (fldE_tail (tw := false) HNm.out rfl HK.out H4.out H5.out H20.out hpl))
              clear hpl
              by_cases m0 : x.most < 0
              · have HX := Lib.hid (show fldTail x = 3 by unfold fldTail; rw [inB_false.2 (.inl m0)]; rfl)
                go_wp2_with fail
                go_ret
                exact ⟨by rw [HT.out, HX.out]; rfl, (Hb2.out).trans Hbr.out⟩
              by_cases m1 : 1000 < x.most
              · have HX := Lib.hid (show fldTail x = 3 by unfold fldTail; rw [inB_false.2 (.inr m1)]; rfl)
                go_wp2_with fail
                go_ret
                exact ⟨by rw [HT.out, HX.out]; rfl, (Hb2.out).trans Hbr.out⟩
              have hmi := inB_true.2 (show 0 ≤ x.most ∧ x.most ≤ 1000 by omega)
              by_cases c1 : x.kind = 1
              · have HX := Lib.hid (show fldTail x = 0 by unfold fldTail; rw [hmi, decide_eq_true c1]; rfl)
                have q1 : (x.kind != 1) = false := by simp [c1]
                clear hmi c1
                go_wp2_with fail
                go_ret
                exact ⟨by rw [HT.out, HX.out]; rfl, (Hb2.out).trans Hbr.out⟩
              have q1 : (x.kind != 1) = true := by simp [c1]
              by_cases c2 : x.most = 0
              · have HX := Lib.hid (show fldTail x = 0 by unfold fldTail; rw [hmi, decide_eq_false c1, decide_eq_true c2]; rfl)
                have q2 : (x.most != 0) = false := by simp [c2]
                clear hmi c1 c2
                go_wp2_with fail
                go_ret
                exact ⟨by rw [HT.out, HX.out]; rfl, (Hb2.out).trans Hbr.out⟩
              · have HX := Lib.hid (show fldTail x = 2 by unfold fldTail; rw [hmi, decide_eq_false c1, decide_eq_false c2]; rfl)
                have q2 : (x.most != 0) = true := by simp [c2]
                clear hmi c1 c2
                go_wp2_with fail
                go_ret
                exact ⟨by rw [HT.out, HX.out]; rfl, (Hb2.out).trans Hbr.out⟩
      · have hl0i : ¬ 0 < (x.marks.length : Int) := by omega
        have HX := Lib.hid (show fldE W H false x = 2 by unfold fldE; rw [HNm.out, HK.out, H4.out, ← Hmk.out, decide_eq_false hl0]; rfl)
        go_wp2_with fail
        go_ret
        exact ⟨by rw [HFE.out, HX.out]; rfl, Hb2.out⟩
    · rw [decide_eq_false hz] at hne0
      have hne := hne0
      simp only [Bool.not_false] at hne
      clear hne0
      have HX := Lib.hid (show fldE W H false x = 2 by unfold fldE; rw [HNm.out, HK.out, ← Hmk.out, if_pos rfl, decide_eq_false (show ¬ x.box = Bx.zero from hz)]; rfl)
      clear hz
      go_wp2_with fail
      go_ret
      exact ⟨by rw [HFE.out, HX.out]; rfl, Hb2.out⟩
end Go.Proofs.YtahfkahfaiidgaaGreatDoor
