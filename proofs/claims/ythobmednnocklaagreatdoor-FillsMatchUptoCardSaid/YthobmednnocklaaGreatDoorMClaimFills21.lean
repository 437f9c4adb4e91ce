/- bedref2.FormError is formErr. -/
import Derived.Test.YthobmednnocklaaGreatDoorMClaimFills17
import Derived.Test.YthobmednnocklaaGreatDoorMClaimFills16
import Derived.Test.YthobmednnocklaaGreatDoorMClaimFills18
import Derived.Test.YthobmednnocklaaGreatDoorMClaimFills2
import Derived.Test.YthobmednnocklaaGreatDoorMClaimFills19
import Derived.Test.YthobmednnocklaaGreatDoorMClaimFills3

namespace Go.Proofs.YthobmednnocklaaGreatDoor
open Go.RowKit Go.Shelf

theorem MapAt.same {w w' : World} {b : Nat} {ks : List (List UInt8)} (h : MapAt w b ks) (hb : w'.heap[b]? = w.heap[b]?) : MapAt w' b ks := by
 obtain ⟨es, c, h1, h2, h3⟩ := h
 exact ⟨es, c, hb.trans h1, h2, h3⟩
end Go.Proofs.YthobmednnocklaaGreatDoor


/-! bedref2.FormError is formErr. -/
namespace Go.Proofs.YthobmednnocklaaGreatDoor
open Go.RowKit Go.Shelf

theorem len10 (n : Nat) : decide (10 < (n : Int)) = decide (10 < n) := decide_eq_decide.2 (by omega)
theorem len50 (n : Nat) : decide (50 < (n : Int)) = decide (50 < n) := decide_eq_decide.2 (by omega)
set_option maxRecDepth 100000 in
set_option maxHeartbeats 8000000 in
theorem formError_any (f : Frm) (w : World) (hF : FrmAt w f) (hS : f.small 1048576) (hN : NumOk w) (hC : SplitOk w) :
 Calls Tryz.prog 27 #[f.val] w fun e w' => e = .returned (.int .i64 f.err) ∧ Bl w w' := by
 obtain ⟨E, hE⟩ : ∃ y, y = f.err := ⟨_, rfl⟩
 rw [← hE]
 have HE := Lib.hid hE
 obtain ⟨nm, fW, fH, reach, dark, AL, ac, la, FL, fc, lf, RL, rc, lr⟩ := f
 let w1 := (w).alloc (.cells #[.string ⟨nm.toArray⟩, .int .i64 fW, .int .i64 fH, .int .i64 reach, .int .i64 dark, .slice AL la.length ac, .slice FL lf.length fc, .slice RL lr.length rc] 75)
 have w1b : Bl w w1 := (Bl.refl w).alloc _
 have w11 : Blk w1 (w.heap.size) 75 #[.string ⟨nm.toArray⟩, .int .i64 fW, .int .i64 fH, .int .i64 reach, .int .i64 dark, .slice AL la.length ac, .slice FL lf.length fc, .slice RL lr.length rc] := by
  have h0 := Blk.new (w) 75 #[.string ⟨nm.toArray⟩, .int .i64 fW, .int .i64 fH, .int .i64 reach, .int .i64 dark, .slice AL la.length ac, .slice FL lf.length fc, .slice RL lr.length rc]
  exact h0
 have HF := Lib.hid (hF.bl w1b); have HN := Lib.hid (hN.bl w1b); have HC := Lib.hid (hC.bl w1b); have HS := Lib.hid hS
 have hla := hF.an.2
 have hlf := hF.fn.2
 have hlr := hF.rn.2
 have hnm := fun wx => nameOf_any ⟨nm.toArray⟩ wx (by rw [Lib.size_mk]; exact hF.nm)
 obtain ⟨nb, hnb⟩ : ∃ b, b = nameB nm := ⟨_, rfl⟩
 have hnm2 : ∀ wx, Calls Tryz.prog 36 #[.string ⟨nm.toArray⟩] wx fun e w' => e = .returned (.bool nb) ∧ Bl wx w' := by rw [hnb]; exact hnm
 have HNm := Lib.hid hnm2; have Hnb := Lib.hid hnb
 have k1 := w11.all8
 have HW1b := Lib.hid w1b
 obtain ⟨HD, hHD⟩ : ∃ e, e = formHead nb fW fH reach dark la.length := ⟨_, rfl⟩
 have HHD := Lib.hid hHD
 unfold Frm.val
 clear hF hN hC hE hnm hnm2 hnb w1b hS hHD
 go_enter Tryz.func27, Tryz.ntmps27
 go_upto_region 1 with fail
 go_cut [3] from 17 to 45 (fun s3 wc => s3 = .int .i64 HD ∧ Bl w1 wc)
 case first =>
  cases h1 : inB reach 0 40
  · have hf : firstNZ [whenI (!nb) 5, sizeErr fW fH, whenI true 3, whenI (decide (10 < (la.length : Int))) 4] = HD := by
     rw [HHD.out]; unfold formHead; rw [h1, len10]; rfl
    refine wp_region_flow [(true, 0), (true, 1), (true, 5), (true, 6), (true, 7), (true, 8), (true, 10), (true, 11), (true, 21), (true, 22), (true, 23), (true, 24), (false, 2), (true, 3), (false, 4), (false, 9), (false, 12), (true, 13), (true, 14), (true, 15), (true, 16), (false, 17), (true, 18), (true, 19), (false, 20), (false, 25), (false, 26), (false, 27), (true, 28)] (fun _ => false) (by kernel_rfl) (by kernel_rfl) (by kernel_rfl) (by kernel_rfl) ?_
    iterate 12
     apply Flow.calm2 _ _ rfl rfl
     · intro w' hb' K' hK'
       obtain ⟨hc', hf'⟩ := hb'.rule
       go_simp
       try go_ints
       exact hK'
     · intro K' hK'
       simp only [sqA]
       exact hK'
    apply Flow.move rfl
    go_wp2_with fail
    refine (HNm.out _).mono ?_
    rintro e w2 ⟨rfl, HB1⟩
    have hb2 : Bl w1 w2 := Bl.ofDrew HB1
    have k2 := (w11.bl hb2).all8
    go_wp2_with fail
    refine ⟨fun _ => (by first | exact HB1 | exact Bl.refl _), ?_⟩
    iterate 1
     apply Flow.calm2 _ _ rfl rfl
     · intro w' hb' K' hK'
       obtain ⟨hc', hf'⟩ := hb'.rule
       go_simp
       try go_ints
       exact hK'
     · intro K' hK'
       simp only [sqA]
       exact hK'
    apply Flow.move rfl
    go_wp2_with fail
    refine (when_any _ _ _).mono ?_
    rintro e w' ⟨rfl, rfl⟩
    go_wp2_with fail
    refine ⟨fun _ => (by first | exact HB2 | exact Bl.refl _), ?_⟩
    apply Flow.move rfl
    go_wp2_with fail
    refine (sizeError_any _ _ _).mono ?_
    rintro e w3 ⟨rfl, HB3⟩
    have hb3 := hb2.trans HB3
    have k3 := (w11.bl hb3).all8
    go_wp2_with fail
    refine ⟨fun _ => (by first | exact HB3 | exact Bl.refl _), ?_⟩
    apply Flow.move rfl
    go_wp2_with fail
    refine (in_any _ _ _ _).mono ?_
    rintro e w' ⟨rfl, rfl⟩
    go_wp2_with fail
    refine ⟨fun _ => (by first | exact HB4 | exact Bl.refl _), ?_⟩
    iterate 1
     apply Flow.calm2 _ _ rfl rfl
     · intro w' hb' K' hK'
       obtain ⟨hc', hf'⟩ := hb'.rule
       go_simp
       try go_ints
       exact hK'
     · intro K' hK'
       simp only [sqA]
       exact hK'
    iterate 1
     apply Flow.mv _ rfl
     · intro K' hK'
       simp only [sqA, Act.eval, arr_getD, List.getD_cons_zero, List.getD_cons_succ]
       exact hK'
    iterate 2
     first
      | (apply Flow.pass rfl (by rfl))
      | (apply Flow.calmG _ rfl (by rfl)
         · intro w' hb'
           obtain ⟨hc', hf'⟩ := hb'.rule
           go_simp
           all_goals (try rfl))
     simp only [sqA]
     try go_ints
    -- a guarded mover
    apply Flow.move rfl
    go_wp2_with fail
    first | refine ⟨fun _ => Bl.refl _, ?_⟩ | refine ⟨Bl.refl _, ?_⟩
    first
     | (apply Flow.pass rfl (by rfl))
     | (apply Flow.calmG _ rfl (by rfl)
        · intro w' hb'
          obtain ⟨hc', hf'⟩ := hb'.rule
          go_simp
          all_goals (try rfl))
    simp only [sqA]
    try go_ints
    iterate 1
     apply Flow.calm2 _ _ rfl rfl
     · intro w' hb' K' hK'
       obtain ⟨hc', hf'⟩ := hb'.rule
       go_simp
       try go_ints
       exact hK'
     · intro K' hK'
       simp only [sqA]
       exact hK'
    apply Flow.move rfl
    go_wp2_with fail
    refine (when_any _ _ _).mono ?_
    rintro e w' ⟨rfl, rfl⟩
    go_wp2_with fail
    refine ⟨fun _ => (by first | exact HB6 | exact Bl.refl _), ?_⟩
    apply Flow.move rfl
    go_wp2_with fail
    refine (when_any _ _ _).mono ?_
    rintro e w' ⟨rfl, rfl⟩
    go_wp2_with fail
    refine ⟨fun _ => (by first | exact HB7 | exact Bl.refl _), ?_⟩
    apply Flow.move rfl
    go_wp2_with fail
    first | refine ⟨fun _ => ?_, ?_⟩ | refine ⟨?_, ?_⟩
    · repeat' (first | exact Bl.refl _ | refine Bl.drewL ?_ | refine Bl.drew ?_ | refine Bl.alloc ?_ _)
    apply Flow.move rfl
    go_wp2_with fail
    refine (first4_any _ _ _ _ _ _ (Blk.new _ _ _)).mono ?_
    rintro e w' ⟨rfl, rfl⟩
    go_wp2_with fail
    refine ⟨fun _ => (by first | exact HB9 | exact Bl.refl _), ?_⟩
    iterate 1
     apply Flow.asg _ rfl
     · intro K' hK'
       simp only [sqA, Act.eval, arr_getD, List.getD_cons_zero, List.getD_cons_succ]
       exact hK'
    refine Flow.done ?_
    go_wp2_with fail
    go_meet
    case rel => exact ⟨rfl, hb3.alloc _⟩
  · obtain ⟨i2, hi2⟩ : ∃ b, b = inB dark 1 1000 := ⟨_, rfl⟩
    have hin2 : ∀ wx, Calls Tryz.prog 12 #[.int .i64 dark, .int .i64 1, .int .i64 1000] wx fun e w' => e = .returned (.bool i2) ∧ wx = w' := fun wx => by rw [hi2]; exact in_any _ _ _ _
    have hf : firstNZ [whenI (!nb) 5, sizeErr fW fH, whenI (!i2) 3, whenI (decide (10 < (la.length : Int))) 4] = HD := by
     rw [HHD.out]; unfold formHead; rw [h1, len10, hi2]; rfl
    have Hin2 := Lib.hid hin2
    clear hin2 hi2
    refine wp_region_flow [(true, 0), (true, 1), (true, 5), (true, 6), (true, 7), (true, 8), (true, 10), (true, 11), (true, 21), (true, 22), (true, 23), (true, 24), (false, 2), (true, 3), (false, 4), (false, 9), (false, 12), (true, 13), (true, 14), (true, 15), (true, 16), (false, 17), (true, 18), (true, 19), (false, 20), (false, 25), (false, 26), (false, 27), (true, 28)] (fun _ => false) (by kernel_rfl) (by kernel_rfl) (by kernel_rfl) (by kernel_rfl) ?_
    iterate 12
     apply Flow.calm2 _ _ rfl rfl
     · intro w' hb' K' hK'
       obtain ⟨hc', hf'⟩ := hb'.rule
       go_simp
       try go_ints
       exact hK'
     · intro K' hK'
       simp only [sqA]
       exact hK'
    apply Flow.move rfl
    go_wp2_with fail
    refine (HNm.out _).mono ?_
    rintro e w2 ⟨rfl, HB1⟩
    have hb2 : Bl w1 w2 := Bl.ofDrew HB1
    have k2 := (w11.bl hb2).all8
    go_wp2_with fail
    refine ⟨fun _ => (by first | exact HB1 | exact Bl.refl _), ?_⟩
    iterate 1
     apply Flow.calm2 _ _ rfl rfl
     · intro w' hb' K' hK'
       obtain ⟨hc', hf'⟩ := hb'.rule
       go_simp
       try go_ints
       exact hK'
     · intro K' hK'
       simp only [sqA]
       exact hK'
    apply Flow.move rfl
    go_wp2_with fail
    refine (when_any _ _ _).mono ?_
    rintro e w' ⟨rfl, rfl⟩
    go_wp2_with fail
    refine ⟨fun _ => (by first | exact HB2 | exact Bl.refl _), ?_⟩
    apply Flow.move rfl
    go_wp2_with fail
    refine (sizeError_any _ _ _).mono ?_
    rintro e w3 ⟨rfl, HB3⟩
    have hb3 := hb2.trans HB3
    have k3 := (w11.bl hb3).all8
    go_wp2_with fail
    refine ⟨fun _ => (by first | exact HB3 | exact Bl.refl _), ?_⟩
    apply Flow.move rfl
    go_wp2_with fail
    refine (in_any _ _ _ _).mono ?_
    rintro e w' ⟨rfl, rfl⟩
    go_wp2_with fail
    refine ⟨fun _ => (by first | exact HB4 | exact Bl.refl _), ?_⟩
    iterate 1
     apply Flow.calm2 _ _ rfl rfl
     · intro w' hb' K' hK'
       obtain ⟨hc', hf'⟩ := hb'.rule
       go_simp
       try go_ints
       exact hK'
     · intro K' hK'
       simp only [sqA]
       exact hK'
    iterate 1
     apply Flow.mv _ rfl
     · intro K' hK'
       simp only [sqA, Act.eval, arr_getD, List.getD_cons_zero, List.getD_cons_succ]
       exact hK'
    iterate 2
     first
      | (apply Flow.pass rfl (by rfl))
      | (apply Flow.calmG _ rfl (by rfl)
         · intro w' hb'
           obtain ⟨hc', hf'⟩ := hb'.rule
           go_simp
           all_goals (try rfl))
     simp only [sqA]
     try go_ints
    -- a guarded mover
    apply Flow.move rfl
    go_wp2_with fail
    refine (Hin2.out _).mono ?_
    rintro e w' ⟨rfl, rfl⟩
    go_wp2_with fail
    refine ⟨fun _ => (by first | exact HB5 | exact Bl.refl _), ?_⟩
    first
     | (apply Flow.pass rfl (by rfl))
     | (apply Flow.calmG _ rfl (by rfl)
        · intro w' hb'
          obtain ⟨hc', hf'⟩ := hb'.rule
          go_simp
          all_goals (try rfl))
    simp only [sqA]
    try go_ints
    iterate 1
     apply Flow.calm2 _ _ rfl rfl
     · intro w' hb' K' hK'
       obtain ⟨hc', hf'⟩ := hb'.rule
       go_simp
       try go_ints
       exact hK'
     · intro K' hK'
       simp only [sqA]
       exact hK'
    apply Flow.move rfl
    go_wp2_with fail
    refine (when_any _ _ _).mono ?_
    rintro e w' ⟨rfl, rfl⟩
    go_wp2_with fail
    refine ⟨fun _ => (by first | exact HB6 | exact Bl.refl _), ?_⟩
    apply Flow.move rfl
    go_wp2_with fail
    refine (when_any _ _ _).mono ?_
    rintro e w' ⟨rfl, rfl⟩
    go_wp2_with fail
    refine ⟨fun _ => (by first | exact HB7 | exact Bl.refl _), ?_⟩
    apply Flow.move rfl
    go_wp2_with fail
    first | refine ⟨fun _ => ?_, ?_⟩ | refine ⟨?_, ?_⟩
    · repeat' (first | exact Bl.refl _ | refine Bl.drewL ?_ | refine Bl.drew ?_ | refine Bl.alloc ?_ _)
    apply Flow.move rfl
    go_wp2_with fail
    refine (first4_any _ _ _ _ _ _ (Blk.new _ _ _)).mono ?_
    rintro e w' ⟨rfl, rfl⟩
    go_wp2_with fail
    refine ⟨fun _ => (by first | exact HB9 | exact Bl.refl _), ?_⟩
    iterate 1
     apply Flow.asg _ rfl
     · intro K' hK'
       simp only [sqA, Act.eval, arr_getD, List.getD_cons_zero, List.getD_cons_succ]
       exact hK'
    refine Flow.done ?_
    go_wp2_with fail
    go_meet
    case rel => exact ⟨rfl, hb3.alloc _⟩
 case rest =>
 rename World => w2
 obtain ⟨rfl, hb2⟩ := hcut
 have Hb2 := Lib.hid hb2
 have k1 := (w11.bl hb2).all8
 clear hb2
 by_cases hz : HD = 0
 case neg =>
  have hq : (HD != 0) = true := by simp [hz]
  have HX := Lib.hid (show E = HD by
   rw [HE.out]; unfold Frm.err formErr
   simp only
   rw [← Hnb.out, ← HHD.out, firstNZ_stop hz])
  clear hz
  go_wp2_with fail
  go_ret
  exact ⟨by rw [HX.out]; rfl, HW1b.out.trans Hb2.out⟩
 have hq : (HD != 0) = false := by simp [hz]
 have hh := HHD.out
 rw [hz] at hh
 have hnbt : nb = true := by
  cases nb with
  | true => rfl
  | false => exact absurd hh.symm (by unfold formHead; rw [firstNZ_stop (by decide)]; decide)
 subst hnbt
 have hsz0 : sizeErr fW fH = 0 := by
  apply Classical.byContradiction
  intro hne
  refine absurd hh.symm ?_
  unfold formHead
  rw [firstNZ_eq (show whenI (!true) 5 = 0 from rfl), firstNZ_stop hne]
  exact hne
 have hh2 : firstNZ [whenI (!inB reach 0 40 || !inB dark 1 1000) 3, whenI (decide (10 < la.length)) 4] = 0 := by
  have := hh.symm
  unfold formHead at this
  rw [hsz0, firstNZ_eq (show whenI (!true) 5 = 0 from rfl), firstNZ_0] at this
  exact this
 have h10 : ¬ 10 < la.length := fun h => by
  rw [decide_eq_true h] at hh2
  cases hb : (!inB reach 0 40 || !inB dark 1 1000) with
  | true => rw [hb] at hh2; exact absurd hh2 (by decide)
  | false => rw [hb] at hh2; exact absurd hh2 (by decide)
 have hsz := sizeErr_zero hsz0
 obtain ⟨W, rfl⟩ := Int.eq_ofNat_of_zero_le (show 0 ≤ fW by omega)
 obtain ⟨H, rfl⟩ := Int.eq_ofNat_of_zero_le (show 0 ≤ fH by omega)
 have hW : 1 ≤ W ∧ W ≤ 4000 := by omega
 have hH : 1 ≤ H ∧ H ≤ 4000 := by omega
 have HE1 := Lib.hid (show E = firstNZ [ancsErr W H la, whenI (decide (lf.length = 0)) 9, whenI (decide (50 < lf.length)) 4, fldsErr W H [] lf, whenI (overB [] (boxesB la lf)) 11, whenI (decide (50 < lr.length)) 4, rulsErr lf lr] by
  rw [HE.out]; unfold Frm.err formErr
  simp only
  rw [← Hnb.out, ← hh]
  exact firstNZ_0)
 have HW := Lib.hid hW; have HH := Lib.hid hH; have h10n := Lib.hid h10
 have HFA := Lib.hid (HF.out.ancs.bl Hb2.out)
 have hip := fun (a : Anc) wx => inPageOf_any a.X a.Y a.W a.H W H wx
 simp only [inPageW_eq (show 1 ≤ (W : Int) ∧ (W : Int) ≤ 4000 by omega) (show 1 ≤ (H : Int) ∧ (H : Int) ≤ 4000 by omega)] at hip
 have Hip := Lib.hid hip
 have HW2b := Lib.hid (HW1b.out.trans Hb2.out)
 clear hz hh hsz0 hh2 h10 hsz hip HHD HNm
 go_wp2_with fail
 go_loopw [51] (fun u wr => ∃ i : Nat, i ≤ la.length ∧ u = .int .i64 i ∧ Bl w2 wr ∧ ancsErr W H (la.drop i) = ancsErr W H la) (fun u _ => la.length - (RowKit.intOf u).toNat)
 case atStart => exact ⟨0, Nat.zero_le _, rfl, Bl.refl _, rfl⟩
 case round =>
  clear k1
  obtain ⟨i, hi, rfl, hbr, hes⟩ := hrel
  have k1 := (w11.bl (Hb2.out.trans hbr)).all8
  by_cases hlt : i < la.length
  · have hg : la[i]? = some la[i] := List.getElem?_eq_getElem hlt
    obtain ⟨a, ha⟩ : ∃ l, l = la[i] := ⟨_, rfl⟩
    rw [← ha] at hg
    obtain ⟨ad, e1, j1, j2, j3, j4, j5⟩ := (HFA.out.bl hbr).at_ hg
    have HAr := Lib.hid (HFA.out.2 a (List.mem_of_getElem? hg))
    have HG := Lib.hid hg; have HEs := Lib.hid hes; have Hbr := Lib.hid hbr
    clear hg ha hes
    subst e1
    go_upto_region 7 with fail
    obtain ⟨w5, hw5⟩ : ∃ x, x = wr.alloc (.cells #[.int .i64 a.W, .int .i64 a.H, .slice a.A a.m a.c, .int .i64 a.X, .int .i64 a.Y] 141) := ⟨_, rfl⟩
    have b5 : Blk w5 wr.heap.size 141 #[.int .i64 a.W, .int .i64 a.H, .slice a.A a.m a.c, .int .i64 a.X, .int .i64 a.Y] := by rw [hw5]; exact Blk.new _ _ _
    have hb5 : Bl wr w5 := by rw [hw5]; exact (Bl.refl _).alloc _
    rw [← hw5]
    have B5 := Lib.hid b5; have Hb5 := Lib.hid hb5
    have k1 := (w11.bl (Hb2.out.trans (hbr.trans hb5))).all8
    have k2 := b5.all5
    clear hw5 b5 hb5 j1 j2 j3 j4 j5 hbr
    go_wp2_with fail
    refine (bitsError_any _ _ _ _ _ _).mono ?_
    rintro e w6 ⟨rfl, hb6⟩
    have Hb26 := Lib.hid (Hbr.out.trans (Hb5.out.trans hb6))
    have k1 := (w11.bl (Hb2.out.trans Hb26.out)).all8
    have k2 := (B5.out.bl hb6).all5
    have B6 := Lib.hid (B5.out.bl hb6)
    have HA6 := Lib.hid (HAr.out.bl Hb26.out)
    clear hb6
    by_cases hp : pageErr a.W a.H a.m = 0
    case neg =>
     have hq : (pageErr a.W a.H a.m != 0) = true := by simp [hp]
     have HX := Lib.hid (show E = pageErr a.W a.H a.m by
      have h0 : ancErr W H a = pageErr a.W a.H a.m := by unfold ancErr; rw [firstNZ_stop hp]
      have h1 : ancsErr W H la = pageErr a.W a.H a.m := by rw [← HEs.out, ancsErr_from HG.out, if_neg (by rw [h0]; exact hp), h0]
      rw [HE1.out, h1, firstNZ_stop hp])
     clear hp
     go_wp2_with fail
     go_ret
     exact ⟨by rw [HX.out]; rfl, HW2b.out.trans Hb26.out⟩
    have hq : (pageErr a.W a.H a.m != 0) = false := by simp [hp]
    obtain ⟨W', H', q1, q2, q3, -, -, -⟩ := page_nat hp
    have hm40 : a.m ≤ 1099511627776 := by
     have := sizeErr_zero (show sizeErr a.W a.H = 0 by
      apply Classical.byContradiction
      intro hne
      unfold pageErr at hp
      rw [if_neg hne] at hp
      exact hne hp)
     rw [q1, q2] at this
     have := Nat.mul_le_mul (show W' ≤ 4000 by omega) (show H' ≤ 4000 by omega)
     rw [q3]
     omega
    have hcb := fun wx (hr : Reads wx 1 a.A a.m (a.bs.map .bool)) => containsB_any a.A a.m a.c a.bs true wx hr hm40
    obtain ⟨AE, hAE⟩ : ∃ e, e = ancErr W H a := ⟨_, rfl⟩
    have HAE := Lib.hid hAE
    obtain ⟨hasI, hhas⟩ : ∃ b, b = decide (true ∈ a.bs) := ⟨_, rfl⟩
    have HF2 := Lib.hid (show firstNZ [whenI (!hasI) 10, whenI (!inPageB a.X a.Y a.W a.H W H) 13] = AE by rw [hAE]; unfold ancErr; rw [hp, firstNZ_0, hhas]; rfl)
    rw [← hhas] at hcb
    have Hcb := Lib.hid hcb
    have Hst := Lib.hid (show ancsErr W H la = if AE = 0 then ancsErr W H (la.drop (i + 1)) else AE by rw [← HEs.out, ancsErr_from HG.out, hAE])
    clear hp q1 q2 q3 hm40 hcb hAE hhas
    go_upto_region 10 with fail
    refine wp_region_flow [(true, 0), (true, 1), (true, 2), (true, 6), (true, 7), (true, 8), (true, 9), (true, 10), (true, 11), (true, 12), (true, 13), (true, 14), (true, 15), (true, 16), (true, 17), (true, 18), (true, 19), (true, 20), (false, 3), (true, 4), (false, 5), (false, 21), (true, 22), (false, 23), (false, 24), (false, 25), (true, 26)] (fun _ => false) (by kernel_rfl) (by kernel_rfl) (by kernel_rfl) (by kernel_rfl) ?_
    iterate 18
     apply Flow.calm2 _ _ rfl rfl
     · intro w' hb' K' hK'
       obtain ⟨hc', hf'⟩ := hb'.rule
       go_simp
       try go_ints
       exact hK'
     · intro K' hK'
       simp only [sqA]
       exact hK'
    apply Flow.move rfl
    go_wp2_with fail
    refine (Hcb.out _ (HA6.out.bl (Bl.refl _).drew)).mono ?_
    rintro e w' ⟨rfl, rfl⟩
    go_wp2_with fail
    refine ⟨fun _ => (by first | exact HB1 | exact Bl.refl _), ?_⟩
    iterate 1
     apply Flow.calm2 _ _ rfl rfl
     · intro w' hb' K' hK'
       obtain ⟨hc', hf'⟩ := hb'.rule
       go_simp
       try go_ints
       exact hK'
     · intro K' hK'
       simp only [sqA]
       exact hK'
    apply Flow.move rfl
    go_wp2_with fail
    refine (when_any _ _ _).mono ?_
    rintro e w' ⟨rfl, rfl⟩
    go_wp2_with fail
    refine ⟨fun _ => (by first | exact HB2 | exact Bl.refl _), ?_⟩
    apply Flow.move rfl
    go_wp2_with fail
    refine (Hip.out a _).mono ?_
    rintro e w7 ⟨rfl, HB3⟩
    have hb7 : Bl w6 w7 := Bl.ofDrew HB3
    have Hb27 := Lib.hid (Hb26.out.trans hb7)
    go_wp2_with fail
    refine ⟨fun _ => (by first | exact HB3 | exact Bl.refl _), ?_⟩
    iterate 1
     apply Flow.calm2 _ _ rfl rfl
     · intro w' hb' K' hK'
       obtain ⟨hc', hf'⟩ := hb'.rule
       go_simp
       try go_ints
       exact hK'
     · intro K' hK'
       simp only [sqA]
       exact hK'
    apply Flow.move rfl
    go_wp2_with fail
    refine (when_any _ _ _).mono ?_
    rintro e w' ⟨rfl, rfl⟩
    go_wp2_with fail
    refine ⟨fun _ => (by first | exact HB4 | exact Bl.refl _), ?_⟩
    apply Flow.move rfl
    go_wp2_with fail
    first | refine ⟨fun _ => ?_, ?_⟩ | refine ⟨?_, ?_⟩
    · repeat' (first | exact Bl.refl _ | refine Bl.drewL ?_ | refine Bl.drew ?_ | refine Bl.alloc ?_ _)
    apply Flow.move rfl
    go_wp2_with fail
    refine (first2_any _ _ _ _ (Blk.new _ _ _)).mono ?_
    rintro e w' ⟨rfl, rfl⟩
    go_wp2_with fail
    refine ⟨fun _ => (by first | exact HB6 | exact Bl.refl _), ?_⟩
    iterate 1
     apply Flow.asg _ rfl
     · intro K' hK'
       simp only [sqA, Act.eval, arr_getD, List.getD_cons_zero, List.getD_cons_succ]
       exact hK'
    refine Flow.done ?_
    rw [HF2.out]
    clear k1
    by_cases hz : AE = 0
    · have hq2 : (AE != 0) = false := by simp [hz]
      have HY := Lib.hid (show ancsErr W H (la.drop (i + 1)) = ancsErr W H la by rw [Hst.out, if_pos hz])
      clear hz
      go_wp2_with fail
      exact ⟨⟨i + 1, hlt, by go_num, Hb27.out.alloc _, HY.out⟩, by simp [RowKit.intOf]; omega⟩
    · have hq2 : (AE != 0) = true := by simp [hz]
      have HX := Lib.hid (show E = AE by rw [HE1.out, Hst.out, if_neg hz, firstNZ_stop hz])
      clear hz
      go_wp2_with fail
      go_ret
      exact ⟨by rw [HX.out]; rfl, HW2b.out.trans (Hb27.out.alloc _)⟩
  · obtain rfl : i = la.length := by omega
    have Hanc := Lib.hid (show ancsErr W H la = 0 by rw [← hes, List.drop_length]; rfl)
    have Hbr := Lib.hid hbr
    have el0 : ((lf.length : Int) == 0) = decide (lf.length = 0) := len0 _
    obtain ⟨EL, hEL⟩ : ∃ e, e = firstNZ [whenI (decide (lf.length = 0)) 9, whenI (decide (50 < lf.length)) 4] := ⟨_, rfl⟩
    have HEL := Lib.hid (show firstNZ [whenI ((lf.length : Int) == 0) 9, whenI (decide (50 < (lf.length : Int))) 4] = EL by rw [hEL, el0, len50])
    have HE2 := Lib.hid (show E = firstNZ [EL, fldsErr W H [] lf, whenI (overB [] (boxesB la lf)) 11, whenI (decide (50 < lr.length)) 4, rulsErr lf lr] by
     rw [HE1.out, Hanc.out, firstNZ_0, hEL, firstNZ_nest]; rfl)
    have HELd := Lib.hid hEL
    clear hes hbr el0 hEL hi hlt
    go_upto_region 14 with fail
    refine wp_region_flow [(true, 0), (true, 1), (true, 2), (true, 3), (true, 5), (true, 6), (true, 7), (true, 8), (false, 4), (false, 9), (false, 10), (false, 11), (true, 12)] (fun _ => false) (by kernel_rfl) (by kernel_rfl) (by kernel_rfl) (by kernel_rfl) ?_
    iterate 8
     apply Flow.calm2 _ _ rfl rfl
     · intro w' hb' K' hK'
       obtain ⟨hc', hf'⟩ := hb'.rule
       go_simp
       try go_ints
       exact hK'
     · intro K' hK'
       simp only [sqA]
       exact hK'
    apply Flow.move rfl
    go_wp2_with fail
    refine (when_any _ _ _).mono ?_
    rintro e w' ⟨rfl, rfl⟩
    go_wp2_with fail
    refine ⟨fun _ => (by first | exact HB1 | exact Bl.refl _), ?_⟩
    apply Flow.move rfl
    go_wp2_with fail
    refine (when_any _ _ _).mono ?_
    rintro e w' ⟨rfl, rfl⟩
    go_wp2_with fail
    refine ⟨fun _ => (by first | exact HB2 | exact Bl.refl _), ?_⟩
    apply Flow.move rfl
    go_wp2_with fail
    first | refine ⟨fun _ => ?_, ?_⟩ | refine ⟨?_, ?_⟩
    · repeat' (first | exact Bl.refl _ | refine Bl.drewL ?_ | refine Bl.drew ?_ | refine Bl.alloc ?_ _)
    apply Flow.move rfl
    go_wp2_with fail
    refine (first2_any _ _ _ _ (Blk.new _ _ _).drew).mono ?_
    rintro e w' ⟨rfl, rfl⟩
    go_wp2_with fail
    refine ⟨fun _ => (by first | exact HB4 | exact Bl.refl _), ?_⟩
    iterate 1
     apply Flow.asg _ rfl
     · intro K' hK'
       simp only [sqA, Act.eval, arr_getD, List.getD_cons_zero, List.getD_cons_succ]
       exact hK'
    refine Flow.done ?_
    rw [HEL.out]
    obtain ⟨w3, hw3⟩ : ∃ y, y = (wr.alloc (.cells #[.int .i64 (whenI ((lf.length : Int) == 0) 9), .int .i64 (whenI (decide (50 < (lf.length : Int))) 4)] 31)).drew := ⟨_, rfl⟩
    have hb3 : Bl wr w3 := by rw [hw3]; exact ((Bl.refl _).alloc _).drew
    rw [← hw3]
    have Hb3 := Lib.hid (Hbr.out.trans hb3)
    have k1 := (w11.bl (Hb2.out.trans Hb3.out)).all8
    clear hw3 hb3 HEL
    by_cases hz : EL = 0
    case neg =>
     have hq : (EL != 0) = true := by simp [hz]
     have HX := Lib.hid (show E = EL by rw [HE2.out, firstNZ_stop hz])
     clear hz
     go_wp2_with fail
     go_ret
     exact ⟨by rw [HX.out]; rfl, HW2b.out.trans Hb3.out⟩
    have hq : (EL != 0) = false := by simp [hz]
    have hl50 : lf.length ≤ 50 := by
     have h := HELd.out
     rw [hz] at h
     apply Classical.byContradiction
     intro hn
     rw [decide_eq_false (show ¬ lf.length = 0 by omega), decide_eq_true (show 50 < lf.length by omega)] at h
     exact absurd h (by decide)
    have HE3 := Lib.hid (show E = firstNZ [fldsErr W H [] lf, whenI (overB [] (boxesB la lf)) 11, whenI (decide (50 < lr.length)) 4, rulsErr lf lr] by rw [HE2.out, hz, firstNZ_0])
    have hfe := fun (i : Nat) (x : Fld) wx (hF : FrmAt wx ⟨nm, W, H, reach, dark, AL, ac, la, FL, fc, lf, RL, rc, lr⟩) hx => fieldError_any _ i x W H wx rfl rfl HW.out HH.out hF hx
    have hbo := fun wx (hF : FrmAt wx ⟨nm, W, H, reach, dark, AL, ac, la, FL, fc, lf, RL, rc, lr⟩) (hm : ∀ x ∈ lf, x.marks.length ≤ 20) => boxesOf_any _ wx hF (show la.length ≤ 10 by have := h10n.out; omega) hl50 hm
    have hre := fun (r : Rul) wx (hF : FrmAt wx ⟨nm, W, H, reach, dark, AL, ac, la, FL, fc, lf, RL, rc, lr⟩) h3 hC => ruleError_any _ r wx hF h3 hC
    unfold Frm.val at hfe hbo
    unfold Frm.val Rul.val at hre
    have Hfe := Lib.hid hfe; have Hbo := Lib.hid hbo; have Hre := Lib.hid hre
    clear hz hfe hbo hre HFA Hip Hbr
    go_wp2_with fail
    go_loopw [109] (fun u wy => ∃ i : Nat, i ≤ lf.length ∧ u = .int .i64 i ∧ Bl w2 wy ∧ fldsErr W H ((lf.take i).map Fld.name) (lf.drop i) = fldsErr W H [] lf) (fun u _ => lf.length - (RowKit.intOf u).toNat)
    case atStart => exact ⟨0, Nat.zero_le _, rfl, Hb3.out, rfl⟩
    case round =>
     clear k1
     rename World => wq
     obtain ⟨i, hi, rfl, hbq, hes⟩ := hrel
     have k1 := (w11.bl (Hb2.out.trans hbq)).all8
     by_cases hlt : i < lf.length
     · have hg : lf[i]? = some lf[i] := List.getElem?_eq_getElem hlt
       obtain ⟨x, hx⟩ : ∃ l, l = lf[i] := ⟨_, rfl⟩
       rw [← hx] at hg
       have HG := Lib.hid hg; have HEs := Lib.hid hes; have Hbq := Lib.hid hbq
       clear hg hx hes hbq
       go_wp2_with fail
       refine (Hfe.out i x _ (HF.out.bl (Hb2.out.trans Hbq.out)) HG.out).mono ?_
       rintro e w6 ⟨rfl, hb6⟩
       have Hb6 := Lib.hid (Hbq.out.trans hb6)
       obtain ⟨FE, hFE⟩ : ∃ e, e = fldErr W H ((lf.take i).map Fld.name) x := ⟨_, rfl⟩
       simp only
       rw [← hFE]
       have Hst := Lib.hid (show fldsErr W H [] lf = if FE = 0 then fldsErr W H ((lf.take (i + 1)).map Fld.name) (lf.drop (i + 1)) else FE by rw [← HEs.out, fldsErr_from HG.out, hFE])
       clear hb6 k1 hFE
       by_cases hz : FE = 0
       · have hq2 : (FE != 0) = false := by simp [hz]
         have HY := Lib.hid (show fldsErr W H ((lf.take (i + 1)).map Fld.name) (lf.drop (i + 1)) = fldsErr W H [] lf by rw [Hst.out, if_pos hz])
         clear hz
         go_wp2_with fail
         exact ⟨⟨i + 1, hlt, by go_num, Hb6.out, HY.out⟩, by simp [RowKit.intOf]; omega⟩
       · have hq2 : (FE != 0) = true := by simp [hz]
         have HX := Lib.hid (show E = FE by rw [HE3.out, Hst.out, if_neg hz, firstNZ_stop hz])
         clear hz
         go_wp2_with fail
         go_ret
         exact ⟨by rw [HX.out]; rfl, HW2b.out.trans Hb6.out⟩
     · obtain rfl : i = lf.length := by omega
       have Hfld := Lib.hid (show fldsErr W H [] lf = 0 by rw [← hes, List.drop_length]; rfl)
       have Hbq := Lib.hid hbq
       have hm20 : ∀ x ∈ lf, x.marks.length ≤ 20 := fun x hx => by
        obtain ⟨pv, h⟩ := fldsErr_each Hfld.out x hx
        exact (fldE_ok h).2.2.2.2.1
       obtain ⟨bl, hbl'⟩ : ∃ l, l = boxesB la lf := ⟨_, rfl⟩
       have hok : ∀ b ∈ bl, b.Ok := fun b hb => Bx.ok (W := W) (H := H) (by have := HW.out; omega) (by have := HH.out; omega) (boxes_ok Hanc.out Hfld.out b (by rw [← hbl']; exact hb))
       have HE4 := Lib.hid (show E = firstNZ [whenI (overB [] bl) 11, whenI (decide (50 < lr.length)) 4, rulsErr lf lr] by rw [HE3.out, Hfld.out, firstNZ_0, hbl'])
       have hbo := Hbo.out wq (HF.out.bl (Hb2.out.trans hbq)) hm20
       simp only [← hbl'] at hbo
       have Hbo2 := Lib.hid hbo; have Hok := Lib.hid hok
       clear hes hbq hm20 hok hbo hbl' hi hlt
       go_wp2_with fail
       refine Hbo2.out.mono ?_
       rintro e w4 ⟨A, c, rfl, hr, hbln, hb4⟩
       have HR := Lib.hid hr; have Hb4 := Lib.hid (Hbq.out.trans hb4)
       have k1 := (w11.bl (Hb2.out.trans Hb4.out)).all8
       clear hr hb4
       go_wp2_with fail
       go_loopw [123] (fun u wy => ∃ i : Nat, i ≤ bl.length ∧ u = .int .i64 i ∧ Bl w4 wy ∧ overB (bl.take i) (bl.drop i) = overB [] bl) (fun u _ => bl.length - (RowKit.intOf u).toNat)
       case atStart => exact ⟨0, Nat.zero_le _, rfl, Bl.refl _, rfl⟩
       case round =>
        clear k1
        rename World => wb
        obtain ⟨i, hi, rfl, hbr, hov⟩ := hrel
        have HOv := Lib.hid hov; have Hwb := Lib.hid hbr
        clear hov
        by_cases hlt : i < bl.length
        · have hg : bl[i]? = some bl[i] := List.getElem?_eq_getElem hlt
          obtain ⟨b, hb⟩ : ∃ l, l = bl[i] := ⟨_, rfl⟩
          rw [← hb] at hg
          have HG := Lib.hid hg
          clear hg hb hbr
          go_wp2_with fail
          go_loopw [127] (fun u wy => ∃ j : Nat, j ≤ i ∧ u = .int .i64 j ∧ Bl w4 wy ∧ ∀ (j' : Nat) p, j' < j → bl[j']? = some p → b.over p = false) (fun u _ => i - (RowKit.intOf u).toNat)
          case atStart => exact ⟨0, Nat.zero_le _, rfl, Hwb.out, fun j' p hj => absurd hj (Nat.not_lt_zero _)⟩
          case round =>
           rename World => wc
           obtain ⟨j, hj, rfl, hbc, hno⟩ := hrel
           have HNo := Lib.hid hno
           clear hno
           by_cases hlj : j < i
           · have hg2 : bl[j]? = some bl[j] := List.getElem?_eq_getElem (by omega)
             obtain ⟨p, hp⟩ : ∃ l, l = bl[j] := ⟨_, rfl⟩
             rw [← hp] at hg2
             obtain ⟨ad, e1, j1, j2, j3, j4⟩ := BxsAt.at_ (BxsAt.bl HR.out hbc) HG.out
             obtain ⟨ad', e2, i1, i2, i3, i4⟩ := BxsAt.at_ (BxsAt.bl HR.out hbc) hg2
             subst e1
             obtain rfl := Option.some.inj e2
             have hov2 := fun wx => overlapR_any b p wx (Hok.out b (List.mem_of_getElem? HG.out)) (Hok.out p (List.mem_of_getElem? hg2))
             obtain ⟨ov, hov⟩ : ∃ v, v = b.over p := ⟨_, rfl⟩
             rw [← hov] at hov2
             unfold Bx.val at hov2
             have Hov2 := Lib.hid hov2; have Hov := Lib.hid hov; have HG2 := Lib.hid hg2; have Hbc := Lib.hid hbc
             have hji : (j : Int) < (bl.length : Int) := by omega
             clear hov2 hov hg2 hp e2 hbc
             go_upto_region 31 with fail
             refine wp_region_flow [(true, 0), (true, 1), (true, 2), (true, 3), (true, 4), (true, 5), (true, 6), (true, 7), (false, 8)] (fun _ => false) (by kernel_rfl) (by kernel_rfl) (by kernel_rfl) (by kernel_rfl) ?_
             iterate 2
              iterate 2
               apply Flow.mv _ rfl
               · intro K' hK'
                 simp only [sqA, Act.eval, arr_getD, List.getD_cons_zero, List.getD_cons_succ]
                 exact hK'
              iterate 2
               apply Flow.calm2 _ _ rfl rfl
               · intro w' hb' K' hK'
                 obtain ⟨hc', hf'⟩ := hb'.rule
                 go_simp
                 try go_ints
                 exact hK'
               · intro K' hK'
                 simp only [sqA]
                 exact hK'
             apply Flow.move rfl
             go_wp2_with fail
             refine (Hov2.out _).mono ?_
             rintro e w5 ⟨rfl, HB1⟩
             have Hb5 := Lib.hid (Hbc.out.trans (Bl.ofDrew HB1))
             go_wp2_with fail
             refine ⟨fun _ => (by first | exact HB1 | exact Bl.refl _), ?_⟩
             refine Flow.done ?_
             cases ov with
             | true =>
              have HX := Lib.hid (show E = 11 by
               have h1 : ((bl.take i).any fun p => b.over p) = true := List.any_eq_true.2 ⟨p, by
                refine List.mem_of_getElem? (i := j) ?_
                rw [List.getElem?_take_of_lt hlj]; exact HG2.out, Hov.out.symm⟩
               have h2 : overB [] bl = true := by rw [← HOv.out, overB_from HG.out, h1]; rfl
               rw [HE4.out, h2]; rfl)
              go_wp2_with fail
              go_ret
              exact ⟨by rw [HX.out]; rfl, HW2b.out.trans (Hb4.out.trans Hb5.out)⟩
             | false =>
              go_wp2_with fail
              exact ⟨⟨j + 1, hlj, by go_num, Hb5.out, fun j' p' hj' hp' => by
               rcases Nat.lt_succ_iff_lt_or_eq.1 hj' with h | rfl
               · exact HNo.out j' p' h hp'
               · rw [HG2.out] at hp'
                 obtain rfl := Option.some.inj hp'
                 exact Hov.out.symm⟩, by simp [RowKit.intOf]; omega⟩
           · obtain rfl : j = i := by omega
             have HX := Lib.hid (show overB (bl.take (j + 1)) (bl.drop (j + 1)) = overB [] bl by
              have h1 : ((bl.take j).any fun p => b.over p) = false := List.any_eq_false.2 fun p hp => by
               obtain ⟨j', hj'⟩ := List.getElem?_of_mem hp
               have hl := (List.getElem?_eq_some_iff.1 hj').1
               rw [List.length_take] at hl
               rw [List.getElem?_take_of_lt (by omega)] at hj'
               rw [HNo.out j' p (by omega) hj']
               decide
              rw [← HOv.out, overB_from HG.out, h1]; rfl)
             go_wp2_with fail
             exact ⟨⟨j + 1, hlt, by go_num, hbc, HX.out⟩, by simp [RowKit.intOf]; omega⟩
        · obtain rfl : i = bl.length := by omega
          have Hno := Lib.hid (show overB [] bl = false by rw [← HOv.out]; exact overB_end)
          have Hb5 := Lib.hid (Hb4.out.trans hbr)
          have k1 := (w11.bl (Hb2.out.trans Hb5.out)).all8
          clear hbr
          by_cases l50r : 50 < lr.length
          · have l50ri : 50 < (lr.length : Int) := by omega
            have HX := Lib.hid (show E = 4 by rw [HE4.out, Hno.out, decide_eq_true l50r]; rfl)
            go_wp2_with fail
            go_ret
            exact ⟨by rw [HX.out]; rfl, HW2b.out.trans Hb5.out⟩
          have l50ri : ¬ 50 < (lr.length : Int) := by omega
          have HE5 := Lib.hid (show E = rulsErr lf lr by rw [HE4.out, Hno.out, decide_eq_false l50r, whenI_false, whenI_false, firstNZ_0, firstNZ_0]; unfold firstNZ; split <;> simp_all [firstNZ])
          have HFR := Lib.hid (RulsAt.bl HF.out.ruls Hb2.out)
          clear HOv Hwb hi hlt
          go_wp2_with fail
          go_loopw [148] (fun u wy => ∃ i : Nat, i ≤ lr.length ∧ u = .int .i64 i ∧ Bl w2 wy ∧ rulsErr lf (lr.drop i) = rulsErr lf lr) (fun u _ => lr.length - (RowKit.intOf u).toNat)
          case atStart => exact ⟨0, Nat.zero_le _, rfl, Hb5.out, rfl⟩
          case round =>
           clear k1
           rename World => wq2
           obtain ⟨i, hi, rfl, hbq, hes⟩ := hrel
           by_cases hlt : i < lr.length
           · have hg : lr[i]? = some lr[i] := List.getElem?_eq_getElem hlt
             obtain ⟨r, hr⟩ : ∃ l, l = lr[i] := ⟨_, rfl⟩
             rw [← hr] at hg
             obtain ⟨ad2, e2, j1, j2, j3, j4⟩ := (HFR.out.bl hbq).at_ hg
             subst e2
             have HG := Lib.hid hg; have HEs := Lib.hid hes; have Hbq2 := Lib.hid hbq
             have k1 := (w11.bl (Hb2.out.trans hbq)).all8
             clear hg hr hes
             go_upto_region 40 with fail
             obtain ⟨w6, hw6⟩ : ∃ y, y = wq2.alloc (.cells #[.int .i64 r.kind, .string ⟨r.field.toArray⟩, .string ⟨r.other.toArray⟩, .string ⟨r.text.toArray⟩] 147) := ⟨_, rfl⟩
             have b6 : Blk w6 wq2.heap.size 147 #[.int .i64 r.kind, .string ⟨r.field.toArray⟩, .string ⟨r.other.toArray⟩, .string ⟨r.text.toArray⟩] := by rw [hw6]; exact Blk.new _ _ _
             have hb6 : Bl wq2 w6 := by rw [hw6]; exact (Bl.refl _).alloc _
             rw [← hw6]
             have k1 := (w11.bl (Hb2.out.trans (hbq.trans hb6))).all8
             have k2 := b6.all4
             have Hb6 := Lib.hid (hbq.trans hb6)
             clear hw6 b6 hb6 j1 j2 j3 j4 hbq
             go_wp2_with fail
             refine (Hre.out r _ (HF.out.bl (Hb2.out.trans Hb6.out)) (HS.out r (List.mem_of_getElem? HG.out)) (HC.out.bl (Hb2.out.trans Hb6.out))).mono ?_
             rintro e w7 ⟨rfl, hb7⟩
             have Hb7 := Lib.hid (Hb6.out.trans hb7)
             simp only
             clear hb7 k1 k2
             by_cases hz : rulErr lf r = 0
             · have hq : (rulErr lf r != 0) = false := by simp [hz]
               have HX := Lib.hid (show rulsErr lf (lr.drop (i + 1)) = rulsErr lf lr by rw [← HEs.out, rulsErr_from HG.out, if_pos hz])
               clear hz
               go_wp2_with fail
               exact ⟨⟨i + 1, hlt, by go_num, Hb7.out, HX.out⟩, by simp [RowKit.intOf]; omega⟩
             · have hq : (rulErr lf r != 0) = true := by simp [hz]
               have HX := Lib.hid (show E = rulErr lf r by rw [HE5.out, ← HEs.out, rulsErr_from HG.out, if_neg hz])
               clear hz
               go_wp2_with fail
               go_ret
               exact ⟨by rw [HX.out]; rfl, HW2b.out.trans Hb7.out⟩
           · obtain rfl : i = lr.length := by omega
             have HX := Lib.hid (show E = 0 by rw [HE5.out, ← hes, List.drop_length]; rfl)
             go_wp2_with fail
             go_ret
             exact ⟨by rw [HX.out]; rfl, HW2b.out.trans hbq⟩
end Go.Proofs.YthobmednnocklaaGreatDoor
