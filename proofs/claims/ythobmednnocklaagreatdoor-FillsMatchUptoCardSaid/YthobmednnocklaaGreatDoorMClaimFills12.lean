/- glyph.SetLines. -/
import Derived.Test.YthobmednnocklaaGreatDoorMClaimFills11
import Derived.Test.YthobmednnocklaaGreatDoorMClaimFills3
import Derived.Test.YthobmednnocklaaGreatDoorMClaimFills4
import Derived.Test.YthobmednnocklaaGreatDoorMClaimFills1
import Derived.Test.YthobmednnocklaaGreatDoorMClaimFills2
import Derived.Test.YthobmednnocklaaGreatDoorMClaimFills0
import Derived.Test.YthobmednnocklaaGreatDoorMClaimFills10
import Derived.Test.YthobmednnocklaaGreatDoorMClaimFills9
import Derived.Test.YthobmednnocklaaGreatDoorMClaimFills8
import Derived.Laws.EntriesVeiled

namespace Go.Proofs.YthobmednnocklaaGreatDoor
open Go.RowKit

theorem ink_mem {bs : List Bool} {W H : Nat} {is : Bool} {X Y BW BH : Int} (h : BoundsIs bs W H is X Y BW BH) (hl : bs.length = W * H) : is = decide (true ∈ bs) := by
 rw [inkB_is h]
 unfold inkB
 refine decide_eq_decide.2 ⟨fun h0 => ?_, fun hm => ?_⟩
 · apply Classical.byContradiction
   intro hn
   have : (spotL bs (W * H)).length = 0 := spotL_none.2 fun i hi => by
    cases hb : bs.getD i false with
    | false => rfl
    | true =>
     rw [List.getD_eq_getElem?_getD] at hb
     cases hx : bs[i]? with
     | none => rw [hx] at hb; cases hb
     | some v =>
      rw [hx] at hb
      have hv : v = true := hb
      subst hv
      exact absurd (List.mem_of_getElem? hx) hn
   omega
 · obtain ⟨i, hi⟩ := List.getElem?_of_mem hm
   have hlt := (List.getElem?_eq_some_iff.1 hi).1
   rcases Nat.eq_zero_or_pos (spotL bs (W * H)).length with h0 | h0
   · have := spotL_none.1 h0 i (by omega)
     rw [List.getD_eq_getElem?_getD, hi] at this
     cases this
   · exact h0
set_option maxRecDepth 100000 in
set_option maxHeartbeats 2000000 in
theorem checkAnchor_any (f : Frm) (a : Anc) (W H : Nat) (w : World) (hfW : f.W = (W : Int)) (hfH : f.H = (H : Int)) (hW : 1 ≤ W ∧ W ≤ 4000) (hH : 1 ≤ H ∧ H ≤ 4000) (hA : Reads w 1 a.A a.m (a.bs.map .bool)) :
 Calls Tryz.prog 118 #[f.val, a.val] w fun e w' => e = .returned (.int .i64 (ancErr W H a)) ∧ Bl w w' := by
 obtain ⟨nm, fW, fH, reach, dark, AL, ac, la, FL, fc, lf, RL, rc, lr⟩ := f
 simp only at hfW hfH
 subst hfW hfH
 let w1 := ((w).alloc (.cells #[.string ⟨nm.toArray⟩, .int .i64 W, .int .i64 H, .int .i64 reach, .int .i64 dark, .slice AL la.length ac, .slice FL lf.length fc, .slice RL lr.length rc] 75)).alloc (.cells #[.int .i64 a.W, .int .i64 a.H, .slice a.A a.m a.c, .int .i64 a.X, .int .i64 a.Y] 141)
 have w1b : Bl w w1 := ((Bl.refl w).alloc _).alloc _
 have w11 : Blk w1 (w.heap.size) 75 #[.string ⟨nm.toArray⟩, .int .i64 W, .int .i64 H, .int .i64 reach, .int .i64 dark, .slice AL la.length ac, .slice FL lf.length fc, .slice RL lr.length rc] := by
  have h0 := Blk.new (w) 75 #[.string ⟨nm.toArray⟩, .int .i64 W, .int .i64 H, .int .i64 reach, .int .i64 dark, .slice AL la.length ac, .slice FL lf.length fc, .slice RL lr.length rc]
  exact (h0.alloc _)
 have w12 : Blk w1 (w.heap.size + 1) 141 #[.int .i64 a.W, .int .i64 a.H, .slice a.A a.m a.c, .int .i64 a.X, .int .i64 a.Y] := by
  have h0 := Blk.new ((w).alloc (.cells #[.string ⟨nm.toArray⟩, .int .i64 W, .int .i64 H, .int .i64 reach, .int .i64 dark, .slice AL la.length ac, .slice FL lf.length fc, .slice RL lr.length rc] 75)) 141 #[.int .i64 a.W, .int .i64 a.H, .slice a.A a.m a.c, .int .i64 a.X, .int .i64 a.Y]
  simp only [World.size_alloc] at h0
  exact h0
 have hbd := bounds_any a.W a.H a.A a.m a.c a.bs w1 (hA.bl w1b)
 have hbl : a.bs.length = a.m := by have := hA.1; simpa using this
 have Hbd := Lib.hid hbd; have Hbl := Lib.hid hbl
 have k1 := w11.all8
 have k2 := w12.all5
 obtain ⟨AE, hAE⟩ : ∃ x, x = ancErr W H a := ⟨_, rfl⟩
 rw [← hAE]
 have HAE := Lib.hid hAE
 unfold Frm.val Anc.val
 clear hA hbd hbl hAE
 go_enter Tryz.func118, Tryz.ntmps118
 go_wp2_with fail
 refine Hbd.out.mono ?_
 rintro e w2 ⟨X, Y, BW, BH, err, rfl, he1, he2, hb2⟩
 have HE1 := Lib.hid he1; have HE2 := Lib.hid he2
 clear he1 he2
 have B1 := Lib.hid (w11.bl hb2); have B2 := Lib.hid (w12.bl hb2)
 have Hb2 := Lib.hid (w1b.trans hb2)
 have k1 := B1.out.all8
 have k2 := B2.out.all5
 clear hb2
 by_cases hp : pageErr a.W a.H a.m = 0
 · obtain ⟨is, hbi, rfl⟩ := HE2.out hp
   obtain ⟨W', H', q1, q2, q3, -, -, -⟩ := page_nat hp
   have his : is = decide (true ∈ a.bs) := ink_mem hbi (by rw [Hbl.out, q3, q1, q2, Int.toNat_natCast, Int.toNat_natCast])
   have hanc : ancErr W H a = if is = true then whenI (!a.box.inP W H) 13 else 10 := by
    unfold ancErr
    rw [hp, ← his]
    cases is
    · rfl
    · cases hc : a.box.inP W H <;> rfl
   have Hanc := Lib.hid (HAE.out.trans hanc)
   clear hanc his hbi hp q1 q2 q3
   cases is
   · go_wp2_with fail
     go_ret
     exact ⟨by rw [Hanc.out]; rfl, Hb2.out.alloc _⟩
   · have hbx := fun wx => anchorBox_any a wx
     unfold Anc.val Bx.val at hbx
     have hin := fun wx => inPage_any a.X a.Y a.W a.H W H wx hW hH
     have Hbx := Lib.hid hbx; have Hin := Lib.hid hin
     clear hbx hin
     go_upto_region 4 with fail
     obtain ⟨w3, hw3⟩ : ∃ x, x = w2.alloc (.cells #[.int .i64 X, .int .i64 Y, .int .i64 BW, .int .i64 BH] 26) := ⟨_, rfl⟩
     have hb23 : Bl w2 w3 := by rw [hw3]; exact (Bl.refl _).alloc _
     rw [← hw3]
     have k1 := (B1.out.bl hb23).all8
     have k2 := (B2.out.bl hb23).all5
     have Hb3 := Lib.hid (Hb2.out.trans hb23)
     clear hw3 hb23
     refine wp_region_flow [(true, 0), (true, 2), (true, 3), (true, 4), (true, 5), (false, 1), (false, 6), (true, 7)] (fun _ => false) (by kernel_rfl) (by kernel_rfl) (by kernel_rfl) (by kernel_rfl) ?_
     iterate 5
      apply Flow.calm2 _ _ rfl rfl
      · intro w' hb' K' hK'
        obtain ⟨hc', hf'⟩ := hb'.rule
        go_simp
        try go_ints
        exact hK'
      · intro K' hK'
        simp only [sqA]
        exact hK'
     apply Flow.move rfl
     go_wp2_with fail
     refine (Hbx.out _).mono ?_
     rintro e w4 ⟨rfl, HB1⟩
     go_wp2_with fail
     refine ⟨fun _ => (by first | exact HB1 | exact Bl.refl _), ?_⟩
     apply Flow.move rfl
     go_wp2_with fail
     refine (Hin.out _).mono ?_
     rintro e w5 ⟨rfl, HB2⟩
     go_wp2_with fail
     refine ⟨fun _ => (by first | exact HB2 | exact Bl.refl _), ?_⟩
     iterate 1
      apply Flow.asg _ rfl
      · intro K' hK'
        simp only [sqA, Act.eval, arr_getD, List.getD_cons_zero, List.getD_cons_succ]
        exact hK'
     refine Flow.done ?_
     go_wp2_with fail
     go_ret
     exact ⟨by rw [Hanc.out]; rfl, Hb3.out.trans ((Bl.ofDrew HB1).trans HB2)⟩
 · obtain ⟨rfl, -⟩ := HE1.out hp
   have hq : (pageErr a.W a.H a.m != 0) = true := by simp [hp]
   have hanc : ancErr W H a = pageErr a.W a.H a.m := by
    unfold ancErr
    simp only [firstNZ, if_neg hp]
   have Hanc := Lib.hid (HAE.out.trans hanc)
   clear hanc hp
   go_wp2_with fail
   go_ret
   exact ⟨by rw [Hanc.out]; rfl, Hb2.out.alloc _⟩
end Go.Proofs.YthobmednnocklaaGreatDoor


/-! forms.checkField. -/
namespace Go.Proofs.YthobmednnocklaaGreatDoor
open Go.RowKit

theorem places_no {W H : Int} {l : List Bx} (h : ∀ b ∈ l, b.inP W H = true) : placesErr W H l = 0 := by
 unfold placesErr
 have : (l.any fun b => !b.inP W H) = false := by
  rw [List.any_eq_false]
  intro b hb
  rw [h b hb]
  decide
 rw [this]
 rfl
theorem places_bad {W H : Int} {l : List Bx} {b : Bx} (hb : b ∈ l) (h : b.inP W H = false) : placesErr W H l = 13 := by
 unfold placesErr
 have : (l.any fun b => !b.inP W H) = true := List.any_eq_true.2 ⟨b, hb, by rw [h]; rfl⟩
 rw [this]
 rfl
set_option maxRecDepth 100000 in
theorem neq_bx (a b : Bx) (w : World) : (binOp .neq 26 (.agg #[.int .i64 a.X, .int .i64 a.Y, .int .i64 a.W, .int .i64 a.H]) (.agg #[.int .i64 b.X, .int .i64 b.Y, .int .i64 b.W, .int .i64 b.H])).run Tryz.prog w = .ok (.bool (!decide (a = b))) w := by
 obtain ⟨a1, a2, a3, a4⟩ := a
 obtain ⟨b1, b2, b3, b4⟩ := b
 have key : decide ((⟨a1, a2, a3, a4⟩ : Bx) = ⟨b1, b2, b3, b4⟩) = ((a1 == b1) && ((a2 == b2) && ((a3 == b3) && (a4 == b4)))) := by
  rw [Bool.eq_iff_iff]
  simp [Bx.mk.injEq]
 rw [key]
 have un := Tryz.underlying3
 have ag := Tryz.isAgg3
 have sz := Tryz.sizeOf3
 rw [run_neq_struct, show (10000 : Nat) = 9999 + 1 from rfl, run_equalIn_agg w 9999 _ _ _ (by kernel_rfl) (by kernel_rfl)]
 simp only [Program.fieldsOf, Tryz.underlying26]
 cases h1 : (a1 == b1) <;> cases h2 : (a2 == b2) <;> cases h3 : (a3 == b3) <;> cases h4 : (a4 == b4) <;> go_simp
/-- What comes behind the marks' places. -/
def fldTail (x : Fld) : Int := firstNZ [whenI (!inB x.most 0 1000) 3, whenI (!decide (x.kind = 1) && !decide (x.most = 0)) 2]
theorem fldE_tail {W H : Int} {tw : Bool} {x : Fld} (h1 : nameB x.name = true) (h2 : tw = false) (h3 : inB x.kind 1 4 = true) (h4 : (if marksB x.kind then whenI (!decide (x.box = Bx.zero)) 2 else whenI (!x.box.inP W H) 13) = 0) (h5 : marksB x.kind = decide (0 < x.marks.length)) (h6 : ¬ 20 < x.marks.length) (h7 : placesErr W H x.marks = 0) : fldE W H tw x = fldTail x := by
 unfold fldE fldTail
 rw [h1, h2, h3, h4, h5, decide_eq_false h6, h7]
 simp only [firstNZ, whenI, Bool.not_true, bne_self_eq_false, Bool.false_eq_true, if_false, if_true]
theorem fldE_place {W H : Int} {tw : Bool} {x : Fld} (h1 : nameB x.name = true) (h2 : tw = false) (h3 : inB x.kind 1 4 = true) (h4 : (if marksB x.kind then whenI (!decide (x.box = Bx.zero)) 2 else whenI (!x.box.inP W H) 13) = 0) (h5 : marksB x.kind = decide (0 < x.marks.length)) (h6 : ¬ 20 < x.marks.length) (h7 : placesErr W H x.marks = 13) : fldE W H tw x = 13 := by
 unfold fldE
 rw [h1, h2, h3, h4, h5, decide_eq_false h6, h7]
 simp only [firstNZ, whenI, Bool.not_true, bne_self_eq_false, Bool.false_eq_true, if_false, if_true]
 rfl

set_option maxRecDepth 100000 in
set_option maxHeartbeats 4000000 in
theorem checkField_any (f : Frm) (x : Fld) (tw : Bool) (W H : Nat) (w : World) (hfW : f.W = (W : Int)) (hfH : f.H = (H : Int)) (hW : 1 ≤ W ∧ W ≤ 4000) (hH : 1 ≤ H ∧ H ≤ 4000) (hM : BxsAt w x.M x.marks) (hnm : x.name.length ≤ 9223372036854775807) (hml : x.marks.length ≤ 9223372036854775807) :
 Calls Tryz.prog 120 #[f.val, x.val, .bool tw] w fun e w' => e = .returned (.int .i64 (fldE W H tw x)) ∧ Bl w w' := by
 obtain ⟨nm, fW, fH, reach, dark, AL, ac, la, FL, fc, lf, RL, rc, lr⟩ := f
 simp only at hfW hfH
 subst hfW hfH
 obtain ⟨FE, hFE⟩ : ∃ y, y = fldE W H tw x := ⟨_, rfl⟩
 rw [← hFE]
 have HFE := Lib.hid hFE
 let w1 := ((w).alloc (.cells #[.string ⟨nm.toArray⟩, .int .i64 W, .int .i64 H, .int .i64 reach, .int .i64 dark, .slice AL la.length ac, .slice FL lf.length fc, .slice RL lr.length rc] 75)).alloc (.cells #[.string ⟨x.name.toArray⟩, .int .i64 x.kind, .int .i64 x.box.X, .int .i64 x.box.Y, .int .i64 x.box.W, .int .i64 x.box.H, .slice x.M x.marks.length x.mc, .int .i64 x.most, .bool x.needed] 136)
 have w1b : Bl w w1 := ((Bl.refl w).alloc _).alloc _
 have w11 : Blk w1 (w.heap.size) 75 #[.string ⟨nm.toArray⟩, .int .i64 W, .int .i64 H, .int .i64 reach, .int .i64 dark, .slice AL la.length ac, .slice FL lf.length fc, .slice RL lr.length rc] := by
  have h0 := Blk.new (w) 75 #[.string ⟨nm.toArray⟩, .int .i64 W, .int .i64 H, .int .i64 reach, .int .i64 dark, .slice AL la.length ac, .slice FL lf.length fc, .slice RL lr.length rc]
  exact (h0.alloc _)
 have w12 : Blk w1 (w.heap.size + 1) 136 #[.string ⟨x.name.toArray⟩, .int .i64 x.kind, .int .i64 x.box.X, .int .i64 x.box.Y, .int .i64 x.box.W, .int .i64 x.box.H, .slice x.M x.marks.length x.mc, .int .i64 x.most, .bool x.needed] := by
  have h0 := Blk.new ((w).alloc (.cells #[.string ⟨nm.toArray⟩, .int .i64 W, .int .i64 H, .int .i64 reach, .int .i64 dark, .slice AL la.length ac, .slice FL lf.length fc, .slice RL lr.length rc] 75)) 136 #[.string ⟨x.name.toArray⟩, .int .i64 x.kind, .int .i64 x.box.X, .int .i64 x.box.Y, .int .i64 x.box.W, .int .i64 x.box.H, .slice x.M x.marks.length x.mc, .int .i64 x.most, .bool x.needed]
  simp only [World.size_alloc] at h0
  exact h0
 have HM := Lib.hid (hM.bl w1b)
 have hin := fun wx => isName_any ⟨x.name.toArray⟩ wx (by rw [Lib.size_mk]; exact hnm)
 have hip := fun wx => inPage_any x.box.X x.box.Y x.box.W x.box.H W H wx hW hH
 have him := fun (b : Bx) wx => inPage_any b.X b.Y b.W b.H W H wx hW hH
 have Hin := Lib.hid hin; have Hip := Lib.hid hip; have Him := Lib.hid him
 have k1 := w11.all8
 have k2 := w12.all9
 unfold Frm.val Fld.val
 clear hM hin hip him hFE
 go_enter Tryz.func120, Tryz.ntmps120
 go_wp2_with fail
 refine (hasMarks_any _ _).mono ?_
 rintro e w' ⟨rfl, rfl⟩
 go_wp2_with fail
 refine (Hin.out _).mono ?_
 rintro e w2 ⟨rfl, hb2⟩
 have B1 := Lib.hid (w11.bl hb2); have B2 := Lib.hid (w12.bl hb2)
 have Hb2 := Lib.hid (w1b.trans hb2); have Hb12 := Lib.hid hb2
 have k1 := B1.out.all8
 have k2 := B2.out.all9
 clear hb2
 obtain ⟨mk, hmk⟩ : ∃ y, y = marksB x.kind := ⟨_, rfl⟩
 rw [← hmk]
 have Hmk := Lib.hid hmk
 clear hmk
 cases hN : nameB x.name with
 | false =>
  have HX := Lib.hid (show fldE W H tw x = 5 by unfold fldE; rw [hN]; rfl)
  clear hN
  go_wp2_with fail
  go_ret
  exact ⟨by rw [HFE.out, HX.out]; rfl, Hb2.out⟩
 | true =>
 have HNm := Lib.hid hN
 clear hN
 cases tw with
 | true =>
  have HX := Lib.hid (show fldE W H true x = 6 by unfold fldE; rw [HNm.out]; rfl)
  go_wp2_with fail
  go_ret
  exact ⟨by rw [HFE.out, HX.out]; rfl, Hb2.out⟩
 | false =>
 by_cases hk1 : x.kind < 1
 · have HX := Lib.hid (show fldE W H false x = 1 by unfold fldE; rw [HNm.out, inB_false.2 (.inl hk1)]; rfl)
   go_wp2_with fail
   go_ret
   exact ⟨by rw [HFE.out, HX.out]; rfl, Hb2.out⟩
 by_cases hk4 : 4 < x.kind
 · have HX := Lib.hid (show fldE W H false x = 1 by unfold fldE; rw [HNm.out, inB_false.2 (.inr hk4)]; rfl)
   go_wp2_with fail
   go_ret
   exact ⟨by rw [HFE.out, HX.out]; rfl, Hb2.out⟩
 have HK := Lib.hid (inB_true.2 (show 1 ≤ x.kind ∧ x.kind ≤ 4 by omega))
 go_upto_region 8 with fail
 cases mk with
 | false =>
  cases hip : x.box.inP W H with
  | false =>
   have HX := Lib.hid (show fldE W H false x = 13 by unfold fldE; rw [HNm.out, HK.out, ← Hmk.out, hip]; rfl)
   have Hip2 := Lib.hid (show inPageB x.box.X x.box.Y x.box.W x.box.H W H = false from hip)
   clear hip
   go_wp2_with fail
   refine (Hip.out _).mono ?_
   rintro e w3 ⟨rfl, hb3⟩
   rw [Hip2.out]
   go_wp2_with fail
   go_ret
   exact ⟨by rw [HFE.out, HX.out]; rfl, Hb2.out.trans hb3⟩
  | true =>
   have Hip2 := Lib.hid (show inPageB x.box.X x.box.Y x.box.W x.box.H W H = true from hip)
   have H4 := Lib.hid (show (if marksB x.kind then whenI (!decide (x.box = Bx.zero)) 2 else whenI (!x.box.inP W H) 13) = 0 by rw [← Hmk.out, hip]; rfl)
   clear hip
   go_wp2_with fail
   refine (Hip.out _).mono ?_
   rintro e w3 ⟨rfl, hb3⟩
   rw [Hip2.out]
   have HX1 := Lib.hid (B1.out.bl hb3); have HX2 := Lib.hid (B2.out.bl hb3); have HW := Lib.hid (Hb12.out.trans hb3); have Hb3 := Lib.hid (Hb2.out.trans hb3)
   have k1 := HX1.out.all8
   have k2 := HX2.out.all9
   clear hb3
   go_upto_region 10 with fail
   by_cases hl0 : 0 < x.marks.length
   · have hl0i : 0 < (x.marks.length : Int) := by omega
     have HX := Lib.hid (show fldE W H false x = 2 by unfold fldE; rw [HNm.out, HK.out, H4.out, ← Hmk.out, decide_eq_true hl0]; rfl)
     go_wp2_with fail
     go_ret
     exact ⟨by rw [HFE.out, HX.out]; rfl, Hb3.out⟩
   · have hl0i : ¬ 0 < (x.marks.length : Int) := by omega
     have H5 := Lib.hid (show marksB x.kind = decide (0 < x.marks.length) by rw [← Hmk.out, decide_eq_false hl0])
     by_cases h20 : 20 < x.marks.length
     · exact absurd h20 (by omega)
     · have h20i : ¬ 20 < (x.marks.length : Int) := by omega
       have H20 := Lib.hid h20
       clear h20
       go_wp2_with fail
       go_loopw [65] (fun v wr => ∃ i : Nat, i ≤ x.marks.length ∧ v = .int .i64 i ∧ Bl w3 wr ∧ ∀ j b, j < i → x.marks[j]? = some b → b.inP W H = true) (fun v _ => x.marks.length - (RowKit.intOf v).toNat)
       case atStart => exact ⟨0, Nat.zero_le _, rfl, Bl.refl _, fun j b hj => absurd hj (Nat.not_lt_zero _)⟩
       case round =>
        obtain ⟨i, hi, rfl, hbr, hall⟩ := hrel
        have HAll := Lib.hid hall; have Hbr := Lib.hid hbr
        have k1 := (HX1.out.bl hbr).all8
        have k2 := (HX2.out.bl hbr).all9
        clear hall hbr
        by_cases hlt : i < x.marks.length
        · exact absurd hlt (by omega)
        · obtain rfl : i = x.marks.length := by omega
          have hpl : placesErr W H x.marks = 0 := places_no fun b hb => by
           obtain ⟨j, hj⟩ := List.getElem?_of_mem hb
           exact HAll.out j b (List.getElem?_eq_some_iff.1 hj).1 hj
          have HT := Lib.hid (HFE.out.trans (fldE_tail (tw := false) HNm.out rfl HK.out H4.out H5.out H20.out hpl))
          clear hpl
          by_cases m0 : x.most < 0
          · have HX := Lib.hid (show fldTail x = 3 by unfold fldTail; rw [inB_false.2 (.inl m0)]; rfl)
            go_wp2_with fail
            go_ret
            exact ⟨by rw [HT.out, HX.out]; rfl, (Hb3.out).trans Hbr.out⟩
          by_cases m1 : 1000 < x.most
          · have HX := Lib.hid (show fldTail x = 3 by unfold fldTail; rw [inB_false.2 (.inr m1)]; rfl)
            go_wp2_with fail
            go_ret
            exact ⟨by rw [HT.out, HX.out]; rfl, (Hb3.out).trans Hbr.out⟩
          have hmi := inB_true.2 (show 0 ≤ x.most ∧ x.most ≤ 1000 by omega)
          by_cases c1 : x.kind = 1
          · have HX := Lib.hid (show fldTail x = 0 by unfold fldTail; rw [hmi, decide_eq_true c1]; rfl)
            have q1 : (x.kind != 1) = false := by simp [c1]
            clear hmi c1
            go_wp2_with fail
            go_ret
            exact ⟨by rw [HT.out, HX.out]; rfl, (Hb3.out).trans Hbr.out⟩
          have q1 : (x.kind != 1) = true := by simp [c1]
          by_cases c2 : x.most = 0
          · have HX := Lib.hid (show fldTail x = 0 by unfold fldTail; rw [hmi, decide_eq_false c1, decide_eq_true c2]; rfl)
            have q2 : (x.most != 0) = false := by simp [c2]
            clear hmi c1 c2
            go_wp2_with fail
            go_ret
            exact ⟨by rw [HT.out, HX.out]; rfl, (Hb3.out).trans Hbr.out⟩
          · have HX := Lib.hid (show fldTail x = 2 by unfold fldTail; rw [hmi, decide_eq_false c1, decide_eq_false c2]; rfl)
            have q2 : (x.most != 0) = true := by simp [c2]
            clear hmi c1 c2
            go_wp2_with fail
            go_ret
            exact ⟨by rw [HT.out, HX.out]; rfl, (Hb3.out).trans Hbr.out⟩
 | true =>
  have hne0 := fun w' => neq_bx x.box ⟨0, 0, 0, 0⟩ w'
  by_cases hz : x.box = ⟨0, 0, 0, 0⟩
  · rw [decide_eq_true hz] at hne0
    have hne := hne0
    simp only [Bool.not_true] at hne
    clear hne0
    have H4 := Lib.hid (show (if marksB x.kind then whenI (!decide (x.box = Bx.zero)) 2 else whenI (!x.box.inP W H) 13) = 0 by rw [← Hmk.out, if_pos rfl, decide_eq_true (show x.box = Bx.zero from hz)]; rfl)
    have HX1 := Lib.hid B1.out; have HX2 := Lib.hid B2.out; have HW := Lib.hid Hb12.out
    clear hz
    go_upto_region 10 with fail
    by_cases hl0 : 0 < x.marks.length
    · have hl0i : 0 < (x.marks.length : Int) := by omega
      have H5 := Lib.hid (show marksB x.kind = decide (0 < x.marks.length) by rw [← Hmk.out, decide_eq_true hl0])
      by_cases h20 : 20 < x.marks.length
      · have h20i : 20 < (x.marks.length : Int) := by omega
        have HX := Lib.hid (show fldE W H false x = 4 by unfold fldE; rw [HNm.out, HK.out, H4.out, H5.out, decide_eq_true h20]; simp [firstNZ, whenI])
        go_wp2_with fail
        go_ret
        exact ⟨by rw [HFE.out, HX.out]; rfl, Hb2.out⟩
      · have h20i : ¬ 20 < (x.marks.length : Int) := by omega
        have H20 := Lib.hid h20
        clear h20
        go_wp2_with fail
        go_loopw [65] (fun v wr => ∃ i : Nat, i ≤ x.marks.length ∧ v = .int .i64 i ∧ Bl w2 wr ∧ ∀ j b, j < i → x.marks[j]? = some b → b.inP W H = true) (fun v _ => x.marks.length - (RowKit.intOf v).toNat)
        case atStart => exact ⟨0, Nat.zero_le _, rfl, Bl.refl _, fun j b hj => absurd hj (Nat.not_lt_zero _)⟩
        case round =>
         obtain ⟨i, hi, rfl, hbr, hall⟩ := hrel
         have HAll := Lib.hid hall; have Hbr := Lib.hid hbr
         have k1 := (HX1.out.bl hbr).all8
         have k2 := (HX2.out.bl hbr).all9
         clear hall hbr
         by_cases hlt : i < x.marks.length
         · have hg : x.marks[i]? = some x.marks[i] := List.getElem?_eq_getElem hlt
           obtain ⟨b, hb⟩ : ∃ l, l = x.marks[i] := ⟨_, rfl⟩
           rw [← hb] at hg
           obtain ⟨ad, e1, j1, j2, j3, j4⟩ := BxsAt.at_ ((HM.out.bl HW.out).bl Hbr.out) hg
           have HG := Lib.hid hg
           clear hg hb
           rw [e1] at k2 ⊢
           go_upto_region 18 with fail
           obtain ⟨w4, hw4⟩ : ∃ y, y = wr.alloc (.cells #[.int .i64 b.X, .int .i64 b.Y, .int .i64 b.W, .int .i64 b.H] 26) := ⟨_, rfl⟩
           have b4 : Blk w4 wr.heap.size 26 #[.int .i64 b.X, .int .i64 b.Y, .int .i64 b.W, .int .i64 b.H] := by rw [hw4]; exact Blk.new _ _ _
           have hb4 : Bl wr w4 := by rw [hw4]; exact (Bl.refl _).alloc _
           rw [← hw4]
           have k3 := b4.all4
           have k1 := (HX1.out.bl (Hbr.out.trans hb4)).all8
           have Hb4 := Lib.hid hb4
           clear hw4 b4 j1 j2 j3 j4 hb4
           go_wp2_with fail
           refine (Him.out b _).mono ?_
           rintro e w5 ⟨rfl, hb5⟩
           have Hb5 := Lib.hid (Hbr.out.trans (Hb4.out.trans hb5))
           clear hb5 k3
           cases hip : b.inP W H with
           | false =>
            have HX := Lib.hid (fldE_place (tw := false) HNm.out rfl HK.out H4.out H5.out H20.out (places_bad (List.mem_of_getElem? HG.out) hip))
            rw [show inPageB b.X b.Y b.W b.H W H = false from hip]
            clear hip
            go_wp2_with fail
            go_ret
            exact ⟨by rw [HFE.out, HX.out]; rfl, (Hb2.out).trans Hb5.out⟩
           | true =>
            have Hi := Lib.hid hip
            rw [show inPageB b.X b.Y b.W b.H W H = true from hip]
            clear hip
            go_wp2_with fail
            exact ⟨⟨i + 1, hlt, by go_num, Hb5.out, fun j b' hj hb' => by
             rcases Nat.lt_succ_iff_lt_or_eq.1 hj with h | rfl
             · exact HAll.out j b' h hb'
             · rw [HG.out] at hb'
               obtain rfl := Option.some.inj hb'
               exact Hi.out⟩, by simp [RowKit.intOf]; omega⟩
         · obtain rfl : i = x.marks.length := by omega
           have hpl : placesErr W H x.marks = 0 := places_no fun b hb => by
            obtain ⟨j, hj⟩ := List.getElem?_of_mem hb
            exact HAll.out j b (List.getElem?_eq_some_iff.1 hj).1 hj
           have HT := Lib.hid (HFE.out.trans (fldE_tail (tw := false) HNm.out rfl HK.out H4.out H5.out H20.out hpl))
           clear hpl
           by_cases m0 : x.most < 0
           · have HX := Lib.hid (show fldTail x = 3 by unfold fldTail; rw [inB_false.2 (.inl m0)]; rfl)
             go_wp2_with fail
             go_ret
             exact ⟨by rw [HT.out, HX.out]; rfl, (Hb2.out).trans Hbr.out⟩
           by_cases m1 : 1000 < x.most
           · have HX := Lib.hid (show fldTail x = 3 by unfold fldTail; rw [inB_false.2 (.inr m1)]; rfl)
             go_wp2_with fail
             go_ret
             exact ⟨by rw [HT.out, HX.out]; rfl, (Hb2.out).trans Hbr.out⟩
           have hmi := inB_true.2 (show 0 ≤ x.most ∧ x.most ≤ 1000 by omega)
           by_cases c1 : x.kind = 1
           · have HX := Lib.hid (show fldTail x = 0 by unfold fldTail; rw [hmi, decide_eq_true c1]; rfl)
             have q1 : (x.kind != 1) = false := by simp [c1]
             clear hmi c1
             go_wp2_with fail
             go_ret
             exact ⟨by rw [HT.out, HX.out]; rfl, (Hb2.out).trans Hbr.out⟩
           have q1 : (x.kind != 1) = true := by simp [c1]
           by_cases c2 : x.most = 0
           · have HX := Lib.hid (show fldTail x = 0 by unfold fldTail; rw [hmi, decide_eq_false c1, decide_eq_true c2]; rfl)
             have q2 : (x.most != 0) = false := by simp [c2]
             clear hmi c1 c2
             go_wp2_with fail
             go_ret
             exact ⟨by rw [HT.out, HX.out]; rfl, (Hb2.out).trans Hbr.out⟩
           · have HX := Lib.hid (show fldTail x = 2 by unfold fldTail; rw [hmi, decide_eq_false c1, decide_eq_false c2]; rfl)
             have q2 : (x.most != 0) = true := by simp [c2]
             clear hmi c1 c2
             go_wp2_with fail
             go_ret
             exact ⟨by rw [HT.out, HX.out]; rfl, (Hb2.out).trans Hbr.out⟩
    · have hl0i : ¬ 0 < (x.marks.length : Int) := by omega
      have HX := Lib.hid (show fldE W H false x = 2 by unfold fldE; rw [HNm.out, HK.out, H4.out, ← Hmk.out, decide_eq_false hl0]; rfl)
      go_wp2_with fail
      go_ret
      exact ⟨by rw [HFE.out, HX.out]; rfl, Hb2.out⟩
  · rw [decide_eq_false hz] at hne0
    have hne := hne0
    simp only [Bool.not_false] at hne
    clear hne0
    have HX := Lib.hid (show fldE W H false x = 2 by unfold fldE; rw [HNm.out, HK.out, ← Hmk.out, if_pos rfl, decide_eq_false (show ¬ x.box = Bx.zero from hz)]; rfl)
    clear hz
    go_wp2_with fail
    go_ret
    exact ⟨by rw [HFE.out, HX.out]; rfl, Hb2.out⟩
end Go.Proofs.YthobmednnocklaaGreatDoor


/-! bedref2.Nearest with any two function values; bedref2.FoundOf, ScoreOf. -/
namespace Go.Proofs.YthobmednnocklaaGreatDoor
open Go.RowKit

/-- What of a form and a page is leaned on. -/
structure Fits (f : Frm) (W H r : Nat) : Prop where
 fW : f.W = (W : Int)
 fH : f.H = (H : Int)
 fr : f.reach = (r : Int)
 hW : 1 ≤ W ∧ W ≤ 4000
 hH : 1 ≤ H ∧ H ≤ 4000
 hWH : W * H ≤ 1048576
 hr : r ≤ 40
 hla : f.la.length ≤ 10
 anc : ∀ a ∈ f.la, ancErr W H a = 0
/-- What is known of each anchor. -/
theorem Fits.at_ {f : Frm} {W H r : Nat} (h : Fits f W H r) {a : Anc} (ha : a ∈ f.la) : ∃ BW BH : Nat, a.W = (BW : Int) ∧ a.H = (BH : Int) ∧ a.m = BW * BH ∧ a.box.inP f.W f.H = true ∧ 1 ≤ BW * BH ∧ BW * BH ≤ 1048576 ∧ BW ≤ 4000 ∧ BH ≤ 4000 := by
 obtain ⟨h1, -, h3⟩ := ancErr_ok (h.anc a ha)
 have hs : sizeErr a.W a.H = 0 := by
  apply Classical.byContradiction
  intro hne
  unfold pageErr at h1
  rw [if_neg hne] at h1
  exact hne h1
 have hz := sizeErr_zero hs
 obtain ⟨BW, BH, q1, q2, q3, -, -, -⟩ := page_nat h1
 rw [q1, q2] at hz
 have e := Int.natCast_mul BW BH
 refine ⟨BW, BH, q1, q2, q3, by rw [h.fW, h.fH]; exact h3, Nat.mul_pos (by omega) (by omega), by omega, by omega, by omega⟩
end Go.Proofs.YthobmednnocklaaGreatDoor


/-! The plain law of an empty form, and of a page moved to where its form is. -/
namespace Go.Proofs.YthobmednnocklaaGreatDoor

def paperTo (W H : Nat) (la : List Anc) : Nat → List Bool
 | 0 => List.replicate (W * H) false
 | i + 1 => match la[i]? with
  | none => paperTo W H la i
  | some a => grid W H (pasteF (paperTo W H la i) a.bs W H a.W.toNat a.H.toNat a.X a.Y)
theorem paperTo_succ {W H : Nat} {la : List Anc} {i : Nat} {a : Anc} {BW BH : Nat} (h : la[i]? = some a) (hW : a.W = (BW : Int)) (hH : a.H = (BH : Int)) : paperTo W H la (i + 1) = grid W H (pasteF (paperTo W H la i) a.bs W H BW BH a.X a.Y) := by
 show (match la[i]? with | none => _ | some a => _) = _
 rw [h]
 simp only [hW, hH, Int.toNat_natCast]
theorem grid_false (W H : Nat) : grid W H (fun _ _ => false) = List.replicate (W * H) false := by
 unfold grid
 refine List.ext_getElem? fun i => ?_
 rw [List.getElem?_map, List.getElem?_replicate]
 by_cases h : i < W * H
 · rw [if_pos h, List.getElem?_range h]; rfl
 · rw [if_neg h, List.getElem?_eq_none (by simpa using h)]; rfl
end Go.Proofs.YthobmednnocklaaGreatDoor


/-! strings.Builder.Grow, WriteRune, Cap; strings.Map of a text of 0 and 1 that exchanges them; bar.exchanged, bedref2.right. -/
namespace Go.Proofs.YthobmednnocklaaGreatDoor
open Go.RowKit Go.Shelf

set_option maxRecDepth 100000 in
set_option maxHeartbeats 2000000 in
theorem growAt_any (B n : Nat) (w0 : World) (hbk : w0.heap[B]? = some (.cells #[.pointer none, .slice none 0 0] 195 (0, 0))) (hBw : B ≤ w0.heap.size) (h1 : 1 ≤ n) (hn : n ≤ 1048576) :
 Calls Tryz.prog 116 #[.pointer (some ⟨B, 0, none⟩), .int .i64 n] w0 fun e w' => e = .returned (.tuple #[]) ∧ Bui B [] w' ∧ Below B w0 w' := by
 have hbk1 : (w0.setCell ⟨B, 0, none⟩ (.pointer (some ⟨B, 0, none⟩))).heap[B]? = some (.cells #[.pointer (some ⟨B, 0, none⟩), .slice none 0 0] 195 (0, 0)) := by
  simp [World.setCell, Array.getElem?_modify, hbk]
 have c1 : (w0.setCell ⟨B, 0, none⟩ (.pointer (some ⟨B, 0, none⟩))).cell? ⟨B, 1, none⟩ = some (.slice none 0 0) := by rw [Lib.cell_of_heap hbk1]; rfl
 have hb1 : Below B w0 (w0.setCell ⟨B, 0, none⟩ (.pointer (some ⟨B, 0, none⟩))) := (Below.refl B w0).setCell (p := ⟨B, 0, none⟩) (Nat.le_refl _) _
 have Hck := Lib.hid (check_fresh B w0 (by rw [Lib.cell_of_heap hbk]; rfl) (by simp [World.shape?, hbk]) (Lib.frozen_of_heap hbk 0))
 obtain ⟨w1, hw1⟩ : ∃ x, x = w0.setCell ⟨B, 0, none⟩ (.pointer (some ⟨B, 0, none⟩)) := ⟨_, rfl⟩
 have hBw1 : B ≤ w1.heap.size := by rw [hw1]; simpa using hBw
 rw [← hw1] at hbk1 c1 hb1
 have HW1 := Lib.hid hw1
 have Hbk1 := Lib.hid hbk1
 clear hw1 hbk
 go_enter Tryz.func116, Tryz.ntmps116
 go_wp2_with fail
 refine Hck.out.mono ?_
 rintro e w2 ⟨rfl, rfl⟩
 rw [← HW1.out]
 go_upto_region 3 with fail
 refine wp_region_flow [(true, 0), (true, 1), (true, 2), (true, 3), (true, 4), (true, 5), (true, 6), (true, 7), (true, 8), (true, 9), (true, 10), (true, 11), (true, 12)] (fun _ => false) (by kernel_rfl) (by kernel_rfl) (by kernel_rfl) (by kernel_rfl) ?_
 iterate 1
  apply Flow.mv _ rfl
  · intro K' hK'
    simp only [sqA, Act.eval, arr_getD, List.getD_cons_zero]
    exact hK'
 iterate 4
  apply Flow.calm2 _ _ rfl rfl
  · intro w' hb' K' hK'
    obtain ⟨hc', hf'⟩ := hb'.rule
    go_simp
    try go_ints
    exact hK'
  · intro K' hK'
    simp only [sqA]
    exact hK'
 iterate 1
  apply Flow.mv _ rfl
  · intro K' hK'
    simp only [sqA, Act.eval, arr_getD, List.getD_cons_zero]
    exact hK'
 iterate 5
  apply Flow.calm2 _ _ rfl rfl
  · intro w' hb' K' hK'
    obtain ⟨hc', hf'⟩ := hb'.rule
    go_simp
    try go_ints
    exact hK'
  · intro K' hK'
    simp only [sqA]
    exact hK'
 iterate 1
  apply Flow.mv _ rfl
  · intro K' hK'
    simp only [sqA, Act.eval, arr_getD, List.getD_cons_zero, List.getD_cons_succ]
    exact hK'
 iterate 1
  apply Flow.calm2 _ _ rfl rfl
  · intro w' hb' K' hK'
    obtain ⟨hc', hf'⟩ := hb'.rule
    go_simp
    try go_ints
    exact hK'
  · intro K' hK'
    simp only [sqA]
    exact hK'
 refine Flow.done ?_
 have hlt : (0 : Int) < (n : Int) := by omega
 go_wp2_with fail
 refine (Any.Builder_grow_fresh Tryz.lays241 Tryz.builderExtra241 B B n w1.drew (Nat.le_refl _) Hbk1.out (by simpa using hBw1) (by omega)).mono ?_
 rintro e w2 ⟨rfl, h1, h2⟩
 go_wp2_with fail
 go_end0
 exact ⟨rfl, Or.inr (Lib.BuilderAtF.of h1), hb1.drew.trans h2⟩

set_option maxHeartbeats 2000000 in
set_option maxRecDepth 100000 in
theorem appendRune_any (B : Nat) (c : UInt8) (hc : c.toNat < 128) (v : Value) (bs : List Value) (w : World) (hown : w.ownsRowF B 5 1 v bs.length bs) (hlen : bs.length + 1 ≤ 140737488355328) (hBw : B ≤ w.heap.size) :
 Calls Tryz.prog 356 #[v, .int .i32 (c.toNat : Int)] w fun e w' => ∃ v', e = .returned v' ∧ w'.ownsRowF B 5 1 v' (bs.length + 1) (bs ++ [.int .u8 (c.toNat : Int)]) ∧ (∀ j, j < w.heap.size → some j ≠ v.ownBlock → w'.heap[j]? = w.heap[j]?) ∧ Below B w w' := by
 obtain ⟨i0, hi, hz0, hz1, hz2⟩ := info_parts info_u8
 obtain ⟨cv, hcv⟩ : ∃ cv : Int, cv = (c.toNat : Int) := ⟨_, rfl⟩
 rw [← hcv]
 have hc0 : 0 ≤ cv := by omega
 have hc1 : cv ≤ 127 := by omega
 clear hcv hc
 go_enter Tryz.func356, Tryz.ntmps356
 go_wp2_with (at_builtin; refine wpList_append_ownF _ rfl _ _ 193 rfl B 5 i0 (.int .u8 0) 1 1 Tryz.underlying193 hi hz0 hz1 hz2 rfl (by decide) _ _ _ rfl (hown.alloc _) ⟨w.heap.size, 0, none⟩ 1 1 [.int .u8 cv] rfl rfl ?c1 ?c2 ?c3 ?c4 ?c5 ?_)
 case c1 =>
  intro j u hj
  match j, hj with
  | 0, hj => simp at hj; subst hj; simp [Addr.add]
 case c2 => intro u hu; simp at hu; subst hu; rfl
 case c3 => unfold maxLen; omega
 case c4 => omega
 case c5 => simp; omega
 intro v' w2 hown' hgrow _
 have hbl : Below B w w2 := ((Below.refl B w).alloc hBw _).grown hgrow (by simp; omega) (fun k hk => (hown.lt k hk).1)
 have hbk : ∀ j, j < w.heap.size → some j ≠ v.ownBlock → w2.heap[j]? = w.heap[j]? := fun j hj hne => by
  rw [hgrow.block j (by simp; omega) hne, Lib.alloc_old w _ j hj]
 have HB := Lib.hid hbl; have HK := Lib.hid hbk; have HO := Lib.hid hown'
 clear hbl hbk hown' hgrow hown
 go_wp2
 go_ret
 exact ⟨v', rfl, HO.out, HK.out, HB.out⟩

set_option maxHeartbeats 2000000 in
set_option maxRecDepth 100000 in
theorem writeRune_any (B : Nat) (l : List UInt8) (c : UInt8) (hc : c.toNat < 128) (w : World) (h : Bui B l w) (hlen : l.length + 1 ≤ 140737488355328) (hBw : B ≤ w.heap.size) :
 Calls Tryz.prog 332 #[.pointer (some ⟨B, 0, none⟩), .int .i32 (c.toNat : Int)] w fun e w' => (∃ v, e = .returned v) ∧ Bui B (l ++ [c]) w' ∧ Below B w w' := by
 have hbc : Lib.byteCells (l ++ [c]) = Lib.byteCells l ++ [.int .u8 (c.toNat : Int)] := by rw [Lib.byteCells_append]; rfl
 have hbl : (Lib.byteCells l).length = l.length := Lib.byteCells_length l
 have Hbc := Lib.hid hbc; have Hbl := Lib.hid hbl
 obtain ⟨bs, hbs⟩ : ∃ bs, bs = Lib.byteCells l := ⟨_, rfl⟩
 have hck := builderCheck_any B l w h
 rw [← hbs] at hck Hbc Hbl
 have Hck := Lib.hid hck
 clear hbs hck h hbc hbl
 go_enter Tryz.func332, Tryz.ntmps332
 go_wp2_with (go_at_call 197; refine Hck.out.mono ?_)
 rintro e w1 ⟨rfl, h1, hb1⟩
 obtain ⟨hB, v, hbk, hown, hne⟩ := h1
 have c0 : w1.cell? ⟨B, 0, none⟩ = some (.pointer (some ⟨B, 0, none⟩)) := by rw [Lib.cell_of_heap hbk]; rfl
 have c1 : w1.cell? ⟨B, 1, none⟩ = some v := by rw [Lib.cell_of_heap hbk]; rfl
 obtain ⟨A, cap0, hv⟩ : ∃ A cap, v = .slice A bs.length cap := by
  rcases hown.2 with ⟨h2, h0⟩ | ⟨g, cap, cur, fz, hv, _⟩
  · exact ⟨none, 0, by rw [h2, h0]⟩
  · exact ⟨_, cap, hv⟩
 subst hv
 have hBw1 : B ≤ w1.heap.size := by have := hb1.size; omega
 have hlt : B < w1.heap.size := by
  rcases Nat.lt_or_ge B w1.heap.size with h' | h'
  · exact h'
  · simp [Array.getElem?_eq_none h'] at hbk
 have Har := Lib.hid (appendRune_any B c hc _ bs w1 hown (by have := Hbl.out; omega) hBw1)
 have HF := Lib.hid (And.intro hbk (And.intro hb1 hne))
 clear hbk hown hne hb1 hc Hck
 go_wp2_with fail
 refine Har.out.mono ?_
 rintro e w2 ⟨v', rfl, hown', hold, hb2⟩
 have hbk2 : w2.heap[B]? = some (.cells #[.pointer (some ⟨B, 0, none⟩), .slice A bs.length cap0] 195 (0, 0)) := by
  rw [hold B hlt (fun e => HF.out.2.2 e.symm)]
  exact HF.out.1
 have d0 : w2.cell? ⟨B, 0, none⟩ = some (.pointer (some ⟨B, 0, none⟩)) := by rw [Lib.cell_of_heap hbk2]; rfl
 have d1 : w2.cell? ⟨B, 1, none⟩ = some (.slice A bs.length cap0) := by rw [Lib.cell_of_heap hbk2]; rfl
 have f1 : w2.frozen? ⟨B, 1, none⟩ = false := Lib.frozen_of_heap hbk2 1
 obtain ⟨g, cap, rfl⟩ : ∃ g cap, v' = .slice (some ⟨g, 0, none⟩) (bs.length + 1) cap := by
  rcases hown'.2 with ⟨_, h0⟩ | ⟨g, cap, cur, fz, hv, _⟩
  · omega
  · exact ⟨g, cap, hv⟩
 have hput := Lib.BuilderAtF.put (T := 195) (e := 5) hB hbk2 (bs' := bs ++ [.int .u8 (c.toNat : Int)]) (by simpa using hown') (by decide)
 have hbel : Below B w (w2.setCell ⟨B, 1, none⟩ (.slice (some ⟨g, 0, none⟩) (bs.length + 1) cap)) := (HF.out.2.1.trans hb2).setCell (p := ⟨B, 1, none⟩) hB _
 have Hput := Lib.hid hput; have Hbel := Lib.hid hbel
 clear hput hbel hown' hbk2 hold hb2 HF Har c0 c1
 go_wp2
 refine bodyPost_ret (v := ?v) (by simp [results, Tryz.results332, go_sem]; rfl) rfl ?_
 exact ⟨⟨_, rfl⟩, by show Lib.IsBuilderF _ _ B B (Lib.byteCells (l ++ [c])) _; rw [Hbc.out]; exact Or.inr Hput.out, Hbel.out⟩

set_option maxHeartbeats 1000000 in
set_option maxRecDepth 100000 in
theorem builderCap_any (B : Nat) (l : List UInt8) (w : World) (h : Bui B l w) (hl : 0 < l.length) :
 Calls Tryz.prog 333 #[.pointer (some ⟨B, 0, none⟩)] w fun e w' => ∃ c : Nat, e = .returned (.int .i64 ((c + 1 : Nat) : Int)) ∧ w = w' := by
 have hbl : (Lib.byteCells l).length = l.length := Lib.byteCells_length l
 have key : ∀ p, Lib.BuilderAtF 195 5 B B p (Lib.byteCells l) w → ∃ g c : Nat, w.cell? ⟨B, 1, none⟩ = some (.slice (some ⟨g, 0, none⟩) l.length (c + 1)) := fun p h1 => by
  obtain ⟨hB, v, hbk, hown, hne⟩ := h1
  rcases hown.2 with ⟨h2, h0⟩ | ⟨g, cap, cur, fz, hv, -, -, -, hn, -⟩
  · omega
  · subst hv
    refine ⟨g, cap - 1, ?_⟩
    rw [Lib.cell_of_heap hbk, hbl, show cap - 1 + 1 = cap by omega]
    rfl
 obtain ⟨g, c, c1⟩ : ∃ g c : Nat, w.cell? ⟨B, 1, none⟩ = some (.slice (some ⟨g, 0, none⟩) l.length (c + 1)) := h.elim (key _) (key _)
 clear key h hbl
 go_enter Tryz.func333, Tryz.ntmps333
 go_wp2_with fail
 go_ret
 exact ⟨c, rfl, rfl⟩
set_option maxRecDepth 100000 in
theorem runeLen_any (c : UInt8) (hc : c.toNat < 128) (w : World) : Calls Tryz.prog 331 #[.int .i32 (c.toNat : Int)] w fun e w' => e = .returned (.int .i64 1) ∧ w = w' := by
 have h0 : (0 : Int) ≤ (c.toNat : Int) := by omega
 have h1 : (c.toNat : Int) ≤ 127 := by omega
 obtain ⟨cv, hcv⟩ : ∃ cv : Int, cv = (c.toNat : Int) := ⟨_, rfl⟩
 rw [← hcv] at h0 h1 ⊢
 clear hcv hc
 go_enter Tryz.func331, Tryz.ntmps331
 go_wp2_with fail
 try simp only [Exit.inBlock, Exit.then]
 go_ret
 exact ⟨rfl, rfl⟩

end Go.Proofs.YthobmednnocklaaGreatDoor


/-! glyph.SetLines. -/
namespace Go.Proofs.YthobmednnocklaaGreatDoor
open Go.RowKit Go.Shelf

def zeroPg : Pg := ⟨0, 0, none, 0, 0, []⟩
/-- The pages of the first i lines lie there. -/
def PartsAt (w : World) (q : Nat) (ls : List Ltr) (ht gap sp : Nat) (lines : List (List UInt8)) (ps : List Pg) (i : Nat) : Prop :=
 ps.length = lines.length ∧ ∀ j p s, ps[j]? = some p → lines[j]? = some s → (j < i ∧ s ≠ [] → p.W = (wideOf ls gap sp s : Int) ∧ p.H = (ht : Int) ∧ p.m = wideOf ls gap sp s * ht ∧ p.bs = setCells ls ht gap sp s ∧ Reads w 1 p.A p.m (p.bs.map .bool) ∧ ∀ ad, p.A = some ad → ad.block ≠ q) ∧ (s = [] ∨ i ≤ j → p = zeroPg)
theorem PartsAt.bl {w w' : World} {q : Nat} {ls : List Ltr} {ht gap sp : Nat} {lines : List (List UInt8)} {ps : List Pg} {i : Nat} (h : PartsAt w q ls ht gap sp lines ps i) (hb : Bl w w') : PartsAt w' q ls ht gap sp lines ps i :=
 ⟨h.1, fun j p s hp hs => ⟨fun hj => by
  obtain ⟨a1, a2, a3, a4, a5, a6⟩ := (h.2 j p s hp hs).1 hj
  exact ⟨a1, a2, a3, a4, a5.bl hb, a6⟩, (h.2 j p s hp hs).2⟩⟩
theorem Reads.far2 {w : World} {size n : Nat} {A : Option Addr} {xs : List Value} (h : Reads w size A n xs) {p : Addr} (hn : ∀ ad, A = some ad → ad.block ≠ p.block) (u : Value) : Reads (w.setCell p u) size A n xs :=
 ⟨h.1, fun h0 => by
  obtain ⟨ad, e, hc⟩ := h.2 h0
  refine ⟨ad, e, fun j v hj => ?_⟩
  have h1 := hc j v hj
  have h2 : (ad.add j).block ≠ p.block := by rw [block_of_add]; exact hn ad e
  rw [World.cell?_setCell_other _ _ _ _ (fun e => h2 (by rw [← e]))]
  exact h1⟩
theorem PartsAt.far {w : World} {q : Nat} {ls : List Ltr} {ht gap sp : Nat} {lines : List (List UInt8)} {ps : List Pg} {i : Nat} (h : PartsAt w q ls ht gap sp lines ps i) (o : Nat) (u : Value) : PartsAt (w.setCell ⟨q, o, none⟩ u) q ls ht gap sp lines ps i :=
 ⟨h.1, fun j p s hp hs => ⟨fun hj => by
  obtain ⟨a1, a2, a3, a4, a5, a6⟩ := (h.2 j p s hp hs).1 hj
  exact ⟨a1, a2, a3, a4, a5.far2 a6 u, a6⟩, (h.2 j p s hp hs).2⟩⟩
theorem PartsAt.skip {w : World} {q : Nat} {ls : List Ltr} {ht gap sp : Nat} {lines : List (List UInt8)} {ps : List Pg} {i : Nat} (h : PartsAt w q ls ht gap sp lines ps i) (hs : lines[i]? = some []) : PartsAt w q ls ht gap sp lines ps (i + 1) :=
 ⟨h.1, fun j p s hp hj => ⟨fun hh => by
  refine (h.2 j p s hp hj).1 ⟨?_, hh.2⟩
  rcases Nat.lt_or_ge j i with h1 | h1
  · exact h1
  · have : j = i := by omega
    subst this
    rw [hs] at hj
    exact absurd (Option.some.inj hj).symm hh.2, fun hh => (h.2 j p s hp hj).2 (hh.imp id fun h1 => by omega)⟩⟩
theorem PartsAt.more {w : World} {q : Nat} {ls : List Ltr} {ht gap sp : Nat} {lines : List (List UInt8)} {ps : List Pg} {i : Nat} {s : List UInt8} (h : PartsAt w q ls ht gap sp lines ps i) (hs : lines[i]? = some s) (hn : s ≠ []) (R : Option Addr) (d : Nat)
 (hr : Reads w 1 R (wideOf ls gap sp s * ht) ((setCells ls ht gap sp s).map .bool)) (hq : ∀ ad, R = some ad → ad.block ≠ q) :
 PartsAt w q ls ht gap sp lines (ps.set i ⟨wideOf ls gap sp s, ht, R, wideOf ls gap sp s * ht, d, setCells ls ht gap sp s⟩) (i + 1) := by
 have hlt : i < ps.length := by rw [h.1]; exact (List.getElem?_eq_some_iff.1 hs).1
 refine ⟨by rw [List.length_set]; exact h.1, fun j p t hp ht' => ?_⟩
 by_cases e : j = i
 · subst e
   rw [List.getElem?_set_self hlt] at hp
   have hp' := (Option.some.inj hp).symm
   rw [hs] at ht'
   have ht2 := (Option.some.inj ht').symm
   subst hp'
   subst ht2
   exact ⟨fun _ => ⟨rfl, rfl, rfl, rfl, hr, hq⟩, fun hh => by
    rcases hh with h1 | h1
    · exact absurd h1 hn
    · omega⟩
 · rw [List.getElem?_set_ne (by omega)] at hp
   exact ⟨fun hh => (h.2 j p t hp ht').1 ⟨by omega, hh.2⟩, fun hh => (h.2 j p t hp ht').2 (hh.imp id fun h1 => by omega)⟩

end Go.Proofs.YthobmednnocklaaGreatDoor
