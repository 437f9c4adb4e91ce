/- forms.anchors; what a right form gives; bedlaw2.formed and little. -/
import Derived.Test.YthobmednnocklaaGreatDoorMClaimFills14
import Derived.Test.YthobmednnocklaaGreatDoorMClaimFills16
import Derived.Test.YthobmednnocklaaGreatDoorMClaimFills12
import Derived.Test.YthobmednnocklaaGreatDoorMClaimFills1
import Derived.Test.YthobmednnocklaaGreatDoorMClaimFills11
import Derived.Test.YthobmednnocklaaGreatDoorMClaimFills3
import Derived.Test.YthobmednnocklaaGreatDoorMClaimFills2

namespace Go.Proofs.YthobmednnocklaaGreatDoor
open Go.RowKit Go.Shelf

set_option maxRecDepth 100000 in
set_option maxHeartbeats 8000000 in
theorem checkValueS_any (w0 : World) (f : Frm) (v : Vlu) (gm : Nat) (ks : List (List UInt8)) (w : World) (hb0 : Bl w0 w) (hg : w0.heap.size ≤ gm) (hF : FrmAt w0 f) (hV : Reads w0 1 v.M v.marks.length (v.marks.map (.int .i64))) (hvl : v.marks.length ≤ 9223372036854775807) (hM : MapAt w gm ks) :
 Calls Tryz.prog 65 #[f.val, v.val, .map (some gm), .bool false] w fun e w' => e = .returned (.int .i64 (vluErrS f.lf (decide (v.field ∈ ks)) v)) ∧ VPost w0 w gm ks v.field (vluErrS f.lf (decide (v.field ∈ ks)) v) w' := by
 obtain ⟨nm, fW, fH, reach, dark, AL, ac, la, FL, fc, lf, RL, rc, lr⟩ := f
 obtain ⟨VE, hVE⟩ : ∃ y, y = vluErrS lf (decide (v.field ∈ ks)) v := ⟨_, rfl⟩
 show Calls _ _ _ w fun e w' => e = .returned (.int .i64 (vluErrS lf (decide (v.field ∈ ks)) v)) ∧ VPost w0 w gm ks v.field (vluErrS lf (decide (v.field ∈ ks)) v) w'
 rw [← hVE]
 have HVE := Lib.hid hVE
 let w1 := ((w).alloc (.cells #[.string ⟨nm.toArray⟩, .int .i64 fW, .int .i64 fH, .int .i64 reach, .int .i64 dark, .slice AL la.length ac, .slice FL lf.length fc, .slice RL lr.length rc] 75)).alloc (.cells #[.string ⟨v.field.toArray⟩, .string ⟨v.text.toArray⟩, .slice v.M v.marks.length v.mc, .int .i64 v.sure] 132)
 have w1b : Bl w w1 := ((Bl.refl w).alloc _).alloc _
 have w11 : Blk w1 (w.heap.size) 75 #[.string ⟨nm.toArray⟩, .int .i64 fW, .int .i64 fH, .int .i64 reach, .int .i64 dark, .slice AL la.length ac, .slice FL lf.length fc, .slice RL lr.length rc] := by
  have h0 := Blk.new (w) 75 #[.string ⟨nm.toArray⟩, .int .i64 fW, .int .i64 fH, .int .i64 reach, .int .i64 dark, .slice AL la.length ac, .slice FL lf.length fc, .slice RL lr.length rc]
  exact (h0.alloc _)
 have w12 : Blk w1 (w.heap.size + 1) 132 #[.string ⟨v.field.toArray⟩, .string ⟨v.text.toArray⟩, .slice v.M v.marks.length v.mc, .int .i64 v.sure] := by
  have h0 := Blk.new ((w).alloc (.cells #[.string ⟨nm.toArray⟩, .int .i64 fW, .int .i64 fH, .int .i64 reach, .int .i64 dark, .slice AL la.length ac, .slice FL lf.length fc, .slice RL lr.length rc] 75)) 132 #[.string ⟨v.field.toArray⟩, .string ⟨v.text.toArray⟩, .slice v.M v.marks.length v.mc, .int .i64 v.sure]
  simp only [World.size_alloc] at h0
  exact h0
 have hfa := fun (n : List UInt8) wx (hF : FrmAt wx ⟨nm, fW, fH, reach, dark, AL, ac, la, FL, fc, lf, RL, rc, lr⟩) => fieldAt_any _ n wx hF
 unfold Frm.val at hfa
 have hgw : gm < w.heap.size := by obtain ⟨es, c, h1, -, -⟩ := hM; exact (Array.getElem?_eq_some_iff.1 h1).1
 have HF := Lib.hid hF; have HV := Lib.hid hV; have Hfa := Lib.hid hfa; have HM1 := Lib.hid (hM.bl w1b); have Hb01 := Lib.hid (hb0.trans w1b); have Hg := Lib.hid hg
 have k1 := w11.all8
 have k2 := w12.all4
 have hln : lf.length ≤ 9223372036854775807 := hF.fn.2
 have HW1b := Lib.hid w1b; have W12 := Lib.hid w12; have W11 := Lib.hid w11
 have hle1 := w1b.le
 unfold Frm.val Vlu.val
 clear hF hV hVE hfa w1b hM hb0 hg w11 w12
 go_enter Tryz.func65, Tryz.ntmps65
 go_wp2_with fail
 refine (Hfa.out v.field _ (HF.out.bl Hb01.out)).mono ?_
 rintro e w2 ⟨ix, rfl, hix, hb2⟩
 have Hb02 := Lib.hid (Hb01.out.trans hb2)
 have HM2 := Lib.hid (HM1.out.bl hb2)
 have k1 := (W11.out.bl hb2).all8
 have k2 := (W12.out.bl hb2).all4
 have hle2 := hb2.le
 have hlk := HM2.out.lookup v.field
 obtain ⟨tw, htw⟩ : ∃ b, b = decide (v.field ∈ ks) := ⟨_, rfl⟩
 rw [← htw] at hlk HVE
 have HK2 := Lib.hid (show ∀ k, k < w.heap.size → w2.heap[k]? = w.heap[k]? from fun k hk => (bl_block hb2 k (by omega)).trans (bl_block HW1b.out k hk))
 rcases firstG_fld hix with ⟨h0, hk⟩ | ⟨j, x, rfl, hl, hk⟩
 · have HX := Lib.hid (show VE = 10 by rw [HVE.out]; unfold vluErrS; rw [hk])
   clear hix hk hb2 hlk htw
   go_wp2_with fail
   go_ret
   exact ⟨by rw [HX.out]; rfl, fun h => absurd (HX.out.symm.trans h) (by decide), Hb02.out, fun k hk _ => HK2.out k hk⟩
 have HVE1 := Lib.hid (show VE = firstNZ [whenI tw 6, whenI (wrongAllS x v) 2, rangeE x v.marks] by rw [HVE.out]; unfold vluErrS; rw [hk])
 have HL := Lib.hid hl
 have hjl := (List.getElem?_eq_some_iff.1 hl).1
 have B22 := Lib.hid (W12.out.bl hb2); have B21 := Lib.hid (W11.out.bl hb2)
 clear hix hk hl hb2 htw
 cases tw with
 | true =>
  have HX := Lib.hid (show VE = 6 by rw [HVE1.out]; rfl)
  go_wp2_with fail
  go_ret
  exact ⟨by rw [HX.out]; rfl, fun h => absurd (HX.out.symm.trans h) (by decide), Hb02.out, fun k hk _ => HK2.out k hk⟩
 | false =>
 have HVE2 := Lib.hid (show VE = firstNZ [whenI (wrongAllS x v) 2, rangeE x v.marks] by rw [HVE1.out, whenI_false, firstNZ_0])
 obtain ⟨w4, hup, hM4, hB4, hK4⟩ := HM2.out.update2 v.field
 have hb04 : Bl w0 w4 := hB4 w0 Hb02.out Hg.out
 have b41 : Blk w4 w.heap.size 75 #[.string ⟨nm.toArray⟩, .int .i64 fW, .int .i64 fH, .int .i64 reach, .int .i64 dark, .slice AL la.length ac, .slice FL lf.length fc, .slice RL lr.length rc] := (hK4 _ (by omega)).trans B21.out
 have b42 : Blk w4 (w.heap.size + 1) 132 #[.string ⟨v.field.toArray⟩, .string ⟨v.text.toArray⟩, .slice v.M v.marks.length v.mc, .int .i64 v.sure] := (hK4 _ (by omega)).trans B22.out
 obtain ⟨ad, e1, j1, j2, j3, j4, j5, j6, j7, j8, j9⟩ := FldsAt.at_ (HF.out.flds.bl hb04) HL.out
 simp only at e1
 subst e1
 have HM4 := Lib.hid hM4; have Hb04 := Lib.hid hb04; have B41 := Lib.hid b41; have B42 := Lib.hid b42
 have HK4 := Lib.hid (show ∀ k, k < w.heap.size → k ≠ gm → w4.heap[k]? = w.heap[k]? from fun k hk hn => (hK4 k hn).trans (HK2.out k hk))
 have hs4 : w.heap.size + 2 ≤ w4.heap.size := by have := b42.lt; omega
 have k3 := b41.all8
 have k4 := b42.all4
 clear hM4 hB4 hK4 hb04 b41 b42
 go_upto_region 8 with fail
 obtain ⟨w5, hw5⟩ : ∃ y, y = w4.alloc (.cells #[.string ⟨x.name.toArray⟩, .int .i64 x.kind, .int .i64 x.box.X, .int .i64 x.box.Y, .int .i64 x.box.W, .int .i64 x.box.H, .slice x.M x.marks.length x.mc, .int .i64 x.most, .bool x.needed] 136) := ⟨_, rfl⟩
 have b5 : Blk w5 w4.heap.size 136 #[.string ⟨x.name.toArray⟩, .int .i64 x.kind, .int .i64 x.box.X, .int .i64 x.box.Y, .int .i64 x.box.W, .int .i64 x.box.H, .slice x.M x.marks.length x.mc, .int .i64 x.most, .bool x.needed] := by rw [hw5]; exact Blk.new _ _ _
 have hb5 : Bl w4 w5 := by rw [hw5]; exact (Bl.refl _).alloc _
 rw [← hw5]
 obtain ⟨w6, hw6⟩ : ∃ y, y = w5 := ⟨_, rfl⟩
 rw [← hw6] at b5 hb5 ⊢
 have B6 := Lib.hid b5; have B2 := Lib.hid (B42.out.bl hb5); have Hb06 := Lib.hid (Hb04.out.trans hb5)
 have HPost := Lib.hid (show ∀ wx, Bl w6 wx → VPost w0 w gm ks v.field VE wx from fun wx hx => ⟨fun _ => HM4.out.bl (hb5.trans hx), (Hb04.out.trans hb5).trans hx, fun k hk hn => (bl_block (hb5.trans hx) k (by omega)).trans (HK4.out k hk hn)⟩)
 have k1 := (B41.out.bl hb5).all8
 have k2 := B2.out.all4
 have k3 := b5.all9
 obtain ⟨mk, hmk⟩ : ∃ b, b = marksB x.kind := ⟨_, rfl⟩
 obtain ⟨te, hte⟩ : ∃ b, b = v.text.isEmpty := ⟨_, rfl⟩
 have Hmk := Lib.hid hmk.symm; have Hte := Lib.hid hte.symm
 have hte2 := hte.symm
 have hhm := fun wx => hasMarks_any x.kind wx
 rw [← hmk] at hhm
 have Hhm := Lib.hid hhm
 clear hw5 hw6 b5 hb5 j1 j2 j3 j4 j5 j6 j7 j8 j9 hup hlk hhm hmk hte k4
 go_upto_region 9 with (go_at_call 121; refine (Hhm.out _).mono ?_; rintro e w' ⟨rfl, rfl⟩)
 by_cases c0 : v.sure ≠ 0
 · have q0 : (v.sure != 0) = true := by simp [c0]
   have HX := Lib.hid (show VE = 2 by
    rw [HVE2.out, show wrongAllS x v = true from by
     unfold wrongAllS
     exact wrongTo_mono (j := 0) (show wrongW x v = true by unfold wrongW; simp [c0]) _ (Nat.zero_le _)]; rfl)
   clear c0
   go_wp2_with fail
   go_ret
   exact ⟨by rw [HX.out]; rfl, HPost.out _ (Bl.refl _)⟩
 have Hc0 := Lib.hid (Classical.not_not.1 c0)
 clear c0
 go_cut [36] from 37 to 44 (fun s wc => s = .bool false ∧ w6 = wc)
 case first =>
  have q0 : (v.sure != 0) = false := by rw [Hc0.out]; rfl
  go_wp2_with fail
  go_meet
  case rel => exact ⟨rfl, rfl⟩
 case rest =>
 rename World => wz
 obtain ⟨rfl, rfl⟩ := hcut
 cases mk with
 | true =>
  cases te with
  | false =>
   have HX := Lib.hid (show VE = 2 by
    rw [HVE2.out, show wrongAllS x v = true from by
     unfold wrongAllS
     exact wrongTo_mono (j := 0) (show wrongW x v = true by unfold wrongW wrongV; rw [Hmk.out, Hte.out]; simp [*, Hc0.out]) _ (Nat.zero_le _)]; rfl)
   go_wp2_with fail
   go_ret
   exact ⟨by rw [HX.out]; rfl, HPost.out _ (Bl.refl _)⟩
  | true =>
   by_cases c3 : x.kind = 3
   · have q3 : (x.kind == 3) = true := by simpa using c3
     by_cases cl : 1 < v.marks.length
     · have cli : 1 < (v.marks.length : Int) := by omega
       have HX := Lib.hid (show VE = 2 by
        rw [HVE2.out, show wrongAllS x v = true from by
         unfold wrongAllS
         exact wrongTo_mono (j := 0) (show wrongW x v = true by unfold wrongW wrongV; rw [Hmk.out, Hte.out]; simp [*, Hc0.out]) _ (Nat.zero_le _)]; rfl)
       go_wp2_with fail
       go_ret
       exact ⟨by rw [HX.out]; rfl, HPost.out _ (Bl.refl _)⟩
     · have cli : ¬ 1 < (v.marks.length : Int) := by omega
       have Hw0 := Lib.hid (show wrongW x v = false by unfold wrongW wrongV; rw [Hmk.out, Hte.out]; simp [*, Hc0.out])
       go_upto_region 14 with fail
       go_wp2_with fail
       go_loopw [12] (fun u wr => ∃ j : Nat, 1 ≤ j ∧ j ≤ max 1 v.marks.length ∧ u = .int .i64 j ∧ Bl w6 wr ∧ wrongTo false v.marks j = false) (fun u _ => v.marks.length - (RowKit.intOf u).toNat)
       case atStart => exact ⟨1, Nat.le_refl _, Nat.le_max_left _ _, rfl, Bl.refl _, wrongTo_one _ _⟩
       case round =>
        clear k1 k2 k3
        rename World => wr
        obtain ⟨j, hj1, hj2, rfl, hbr, hno⟩ := hrel
        have k2 := (B2.out.bl hbr).all4
        by_cases hlt : j < v.marks.length
        · exact absurd hlt (by omega)
        · have Hnw := Lib.hid (show wrongAllS x v = false by unfold wrongAllS; rw [Hw0.out, show max 1 v.marks.length = j by omega]; exact hno)
          have Hbr := Lib.hid hbr
          have HVE3 := Lib.hid (show VE = rangeE x v.marks by rw [HVE2.out, Hnw.out, whenI_false, firstNZ_pair]; simp)
          have k3 := (B6.out.bl hbr).all9
          clear hbr hno hj2
          go_wp2_with fail
          go_loopw [89] (fun u wy => ∃ i : Nat, i ≤ v.marks.length ∧ u = .int .i64 i ∧ Bl w6 wy ∧ ∀ (j : Nat) m, j < i → v.marks[j]? = some m → inB m 0 ((x.marks.length : Int) - 1) = true) (fun u _ => v.marks.length - (RowKit.intOf u).toNat)
          case atStart => exact ⟨0, Nat.zero_le _, rfl, Hbr.out, fun j m hj => absurd hj (Nat.not_lt_zero _)⟩
          case round =>
           clear k2 k3
           rename World => wy
           obtain ⟨i, hi, rfl, hby, hall⟩ := hrel
           have k2 := (B2.out.bl hby).all4
           have k3 := (B6.out.bl hby).all9
           by_cases hli : i < v.marks.length
           · have hg : v.marks[i]? = some v.marks[i] := List.getElem?_eq_getElem hli
             obtain ⟨m, hm⟩ : ∃ z, z = v.marks[i] := ⟨_, rfl⟩
             rw [← hm] at hg
             obtain ⟨ad, u1, eA, hu, hc1⟩ := (HV.out.bl (Hb06.out.trans hby)).at_ hli
             have hu1 : u1 = .int .i64 m := by
              rw [List.getElem?_map, hg] at hu
              exact (Option.some.inj hu).symm
             subst hu1
             have HG := Lib.hid hg; have Hby := Lib.hid hby; have HAll := Lib.hid hall
             clear hg hm hu hby hall
             rw [eA]
             by_cases c1 : m < 0
             · have HX := Lib.hid (show VE = 3 by
                rw [HVE3.out]; unfold rangeE
                rw [show (v.marks.any fun m => !inB m 0 ((x.marks.length : Int) - 1)) = true from List.any_eq_true.2 ⟨m, List.mem_of_getElem? HG.out, by rw [inB_false.2 (.inl c1)]; rfl⟩]; rfl)
               go_wp2_with fail
               go_ret
               exact ⟨by rw [HX.out]; rfl, HPost.out _ Hby.out⟩
             · by_cases c2 : (x.marks.length : Int) ≤ m
               · have HX := Lib.hid (show VE = 3 by
                  rw [HVE3.out]; unfold rangeE
                  rw [show (v.marks.any fun m => !inB m 0 ((x.marks.length : Int) - 1)) = true from List.any_eq_true.2 ⟨m, List.mem_of_getElem? HG.out, by rw [inB_false.2 (.inr (by omega))]; rfl⟩]; rfl)
                 go_wp2_with fail
                 go_ret
                 exact ⟨by rw [HX.out]; rfl, HPost.out _ Hby.out⟩
               · have HX := Lib.hid (show inB m 0 ((x.marks.length : Int) - 1) = true from inB_true.2 ⟨by omega, by omega⟩)
                 rw [← eA]
                 go_wp2_with fail
                 exact ⟨⟨i + 1, hli, by go_num, Hby.out, fun j' m' hj' hm' => by
                  rcases Nat.lt_succ_iff_lt_or_eq.1 hj' with h | rfl
                  · exact HAll.out j' m' h hm'
                  · rw [HG.out] at hm'
                    obtain rfl := Option.some.inj hm'
                    exact HX.out⟩, by simp [RowKit.intOf]; omega⟩
           · obtain rfl : i = v.marks.length := by omega
             have HX := Lib.hid (show VE = 0 by
              rw [HVE3.out]; unfold rangeE
              rw [show (v.marks.any fun m => !inB m 0 ((x.marks.length : Int) - 1)) = false from List.any_eq_false.2 fun m hm => by
               obtain ⟨j, hj⟩ := List.getElem?_of_mem hm
               rw [hall j m (List.getElem?_eq_some_iff.1 hj).1 hj]; decide]; rfl)
             go_wp2_with fail
             go_ret
             exact ⟨by rw [HX.out]; rfl, HPost.out _ hby⟩
   · have q3 : (x.kind == 3) = false := by simpa using c3
     have Hw0 := Lib.hid (show wrongW x v = false by unfold wrongW wrongV; rw [Hmk.out, Hte.out]; simp [*, Hc0.out])
     go_upto_region 14 with fail
     go_wp2_with fail
     go_loopw [12] (fun u wr => ∃ j : Nat, 1 ≤ j ∧ j ≤ max 1 v.marks.length ∧ u = .int .i64 j ∧ Bl w6 wr ∧ wrongTo false v.marks j = false) (fun u _ => v.marks.length - (RowKit.intOf u).toNat)
     case atStart => exact ⟨1, Nat.le_refl _, Nat.le_max_left _ _, rfl, Bl.refl _, wrongTo_one _ _⟩
     case round =>
      clear k1 k2 k3
      rename World => wr
      obtain ⟨j, hj1, hj2, rfl, hbr, hno⟩ := hrel
      have k2 := (B2.out.bl hbr).all4
      by_cases hlt : j < v.marks.length
      · have hst := wrongTo_succ false v.marks hj1
        rw [hno, Bool.false_or] at hst
        obtain ⟨ad, u1, eA, hu, hc1⟩ := (HV.out.bl (Hb06.out.trans hbr)).at_ hlt
        obtain ⟨ad', u2, eA', hu', hc2⟩ := (HV.out.bl (Hb06.out.trans hbr)).at_ (show j - 1 < v.marks.length by omega)
        rw [eA] at eA'
        obtain rfl := Option.some.inj eA'
        have hu1 : u1 = .int .i64 (v.marks.getD j 0) := by
         simp only [List.getElem?_map, Option.map_eq_some_iff] at hu
         obtain ⟨b, hb1, hb2⟩ := hu
         rw [← hb2, List.getD, hb1]; rfl
        have hu2 : u2 = .int .i64 (v.marks.getD (j - 1) 0) := by
         simp only [List.getElem?_map, Option.map_eq_some_iff] at hu'
         obtain ⟨b, hb1, hb2⟩ := hu'
         rw [← hb2, List.getD, hb1]; rfl
        clear hu hu'
        subst hu1 hu2
        obtain ⟨p1, hp1⟩ : ∃ z, z = v.marks.getD j 0 := ⟨_, rfl⟩
        obtain ⟨p2, hp2⟩ : ∃ z, z = v.marks.getD (j - 1) 0 := ⟨_, rfl⟩
        rw [← hp1, ← hp2] at hst
        rw [← hp1] at hc1
        rw [← hp2] at hc2
        have ej : ((j : Int) - 1) = ((j - 1 : Nat) : Int) := by omega
        have Hst := Lib.hid hst; have Hbr := Lib.hid hbr; have HEA := Lib.hid eA
        obtain ⟨jm, hjm⟩ : ∃ z, z = j - 1 := ⟨_, rfl⟩
        rw [← hjm] at hc2 ej
        have hjl : (jm : Int) < (v.marks.length : Int) := by omega
        rw [eA] at k2
        have Hj2 := Lib.hid hj2
        clear hp1 hp2 hst hbr hno eA hjm hj2
        go_upto_region 17 with fail
        refine wp_region_flow [(true, 0), (true, 1), (true, 2), (true, 3), (true, 4), (true, 5), (true, 6), (true, 7), (true, 8), (true, 9), (true, 10), (true, 11)] (fun _ => false) (by kernel_rfl) (by kernel_rfl) (by kernel_rfl) (by kernel_rfl) ?_
        iterate 2
         apply Flow.calm2 _ _ rfl rfl
         · intro w' hb' K' hK'
           obtain ⟨hc', hf'⟩ := hb'.rule
           go_simp
           try go_ints
           exact hK'
         · intro K' hK'
           simp only [sqA]
           exact hK'
        iterate 2
         iterate 1
          apply Flow.mv _ rfl
          · intro K' hK'
            simp only [sqA, Act.eval, arr_getD, List.getD_cons_zero, List.getD_cons_succ]
            exact hK'
         iterate 4
          apply Flow.calm2 _ _ rfl rfl
          · intro w' hb' K' hK'
            obtain ⟨hc', hf'⟩ := hb'.rule
            go_simp
            try go_ints
            exact hK'
          · intro K' hK'
            simp only [sqA]
            exact hK'
        refine Flow.done ?_
        by_cases c1 : p1 ≤ p2
        · have HX := Lib.hid (show VE = 2 by
           rw [HVE2.out, show wrongAllS x v = true from by
            unfold wrongAllS
            rw [Hw0.out]
            exact wrongTo_mono (j := j + 1) (by rw [Hst.out]; exact decide_eq_true c1) _ (by omega)]; rfl)
          go_wp2_with fail
          go_ret
          exact ⟨by rw [HX.out]; rfl, HPost.out _ Hbr.out.drew⟩
        · have HX := Lib.hid (show wrongTo false v.marks (j + 1) = false by rw [Hst.out]; exact decide_eq_false c1)
          go_wp2_with fail
          exact ⟨⟨j + 1, by omega, by have := Hj2.out; omega, by go_num, Hbr.out.drew, HX.out⟩, by simp [RowKit.intOf]; omega⟩
      · have Hnw := Lib.hid (show wrongAllS x v = false by unfold wrongAllS; rw [Hw0.out, show max 1 v.marks.length = j by omega]; exact hno)
        have Hbr := Lib.hid hbr
        have HVE3 := Lib.hid (show VE = rangeE x v.marks by rw [HVE2.out, Hnw.out, whenI_false, firstNZ_pair]; simp)
        have k3 := (B6.out.bl hbr).all9
        clear hbr hno hj2
        go_wp2_with fail
        go_loopw [89] (fun u wy => ∃ i : Nat, i ≤ v.marks.length ∧ u = .int .i64 i ∧ Bl w6 wy ∧ ∀ (j : Nat) m, j < i → v.marks[j]? = some m → inB m 0 ((x.marks.length : Int) - 1) = true) (fun u _ => v.marks.length - (RowKit.intOf u).toNat)
        case atStart => exact ⟨0, Nat.zero_le _, rfl, Hbr.out, fun j m hj => absurd hj (Nat.not_lt_zero _)⟩
        case round =>
         clear k2 k3
         rename World => wy
         obtain ⟨i, hi, rfl, hby, hall⟩ := hrel
         have k2 := (B2.out.bl hby).all4
         have k3 := (B6.out.bl hby).all9
         by_cases hli : i < v.marks.length
         · have hg : v.marks[i]? = some v.marks[i] := List.getElem?_eq_getElem hli
           obtain ⟨m, hm⟩ : ∃ z, z = v.marks[i] := ⟨_, rfl⟩
           rw [← hm] at hg
           obtain ⟨ad, u1, eA, hu, hc1⟩ := (HV.out.bl (Hb06.out.trans hby)).at_ hli
           have hu1 : u1 = .int .i64 m := by
            rw [List.getElem?_map, hg] at hu
            exact (Option.some.inj hu).symm
           subst hu1
           have HG := Lib.hid hg; have Hby := Lib.hid hby; have HAll := Lib.hid hall
           clear hg hm hu hby hall
           rw [eA]
           by_cases c1 : m < 0
           · have HX := Lib.hid (show VE = 3 by
              rw [HVE3.out]; unfold rangeE
              rw [show (v.marks.any fun m => !inB m 0 ((x.marks.length : Int) - 1)) = true from List.any_eq_true.2 ⟨m, List.mem_of_getElem? HG.out, by rw [inB_false.2 (.inl c1)]; rfl⟩]; rfl)
             go_wp2_with fail
             go_ret
             exact ⟨by rw [HX.out]; rfl, HPost.out _ Hby.out⟩
           · by_cases c2 : (x.marks.length : Int) ≤ m
             · have HX := Lib.hid (show VE = 3 by
                rw [HVE3.out]; unfold rangeE
                rw [show (v.marks.any fun m => !inB m 0 ((x.marks.length : Int) - 1)) = true from List.any_eq_true.2 ⟨m, List.mem_of_getElem? HG.out, by rw [inB_false.2 (.inr (by omega))]; rfl⟩]; rfl)
               go_wp2_with fail
               go_ret
               exact ⟨by rw [HX.out]; rfl, HPost.out _ Hby.out⟩
             · have HX := Lib.hid (show inB m 0 ((x.marks.length : Int) - 1) = true from inB_true.2 ⟨by omega, by omega⟩)
               rw [← eA]
               go_wp2_with fail
               exact ⟨⟨i + 1, hli, by go_num, Hby.out, fun j' m' hj' hm' => by
                rcases Nat.lt_succ_iff_lt_or_eq.1 hj' with h | rfl
                · exact HAll.out j' m' h hm'
                · rw [HG.out] at hm'
                  obtain rfl := Option.some.inj hm'
                  exact HX.out⟩, by simp [RowKit.intOf]; omega⟩
         · obtain rfl : i = v.marks.length := by omega
           have HX := Lib.hid (show VE = 0 by
            rw [HVE3.out]; unfold rangeE
            rw [show (v.marks.any fun m => !inB m 0 ((x.marks.length : Int) - 1)) = false from List.any_eq_false.2 fun m hm => by
             obtain ⟨j, hj⟩ := List.getElem?_of_mem hm
             rw [hall j m (List.getElem?_eq_some_iff.1 hj).1 hj]; decide]; rfl)
           go_wp2_with fail
           go_ret
           exact ⟨by rw [HX.out]; rfl, HPost.out _ hby⟩
 | false =>
  by_cases cl : 0 < v.marks.length
  · have cli : 0 < (v.marks.length : Int) := by omega
    have HX := Lib.hid (show VE = 2 by
     rw [HVE2.out, show wrongAllS x v = true from by
      unfold wrongAllS
      exact wrongTo_mono (j := 0) (show wrongW x v = true by unfold wrongW wrongV; rw [Hmk.out, Hte.out]; simp [*, Hc0.out]) _ (Nat.zero_le _)]; rfl)
    go_wp2_with fail
    go_ret
    exact ⟨by rw [HX.out]; rfl, HPost.out _ (Bl.refl _)⟩
  · have cli : ¬ 0 < (v.marks.length : Int) := by omega
    have cl1 : ¬ 1 < v.marks.length := by omega
    have q3 : (x.kind == 3) = false := by
     have h := Hmk.out
     unfold marksB at h
     simp at h
     simpa using h.1
    have c3 : ¬ x.kind = 3 := by simpa using q3
    have Hw0 := Lib.hid (show wrongW x v = false by unfold wrongW wrongV; rw [Hmk.out, Hte.out]; simp [*, Hc0.out])
    go_upto_region 14 with fail
    go_wp2_with fail
    go_loopw [12] (fun u wr => ∃ j : Nat, 1 ≤ j ∧ j ≤ max 1 v.marks.length ∧ u = .int .i64 j ∧ Bl w6 wr ∧ wrongTo false v.marks j = false) (fun u _ => v.marks.length - (RowKit.intOf u).toNat)
    case atStart => exact ⟨1, Nat.le_refl _, Nat.le_max_left _ _, rfl, Bl.refl _, wrongTo_one _ _⟩
    case round =>
     clear k1 k2 k3
     rename World => wr
     obtain ⟨j, hj1, hj2, rfl, hbr, hno⟩ := hrel
     have k2 := (B2.out.bl hbr).all4
     by_cases hlt : j < v.marks.length
     · exact absurd hlt (by omega)
     · have Hnw := Lib.hid (show wrongAllS x v = false by unfold wrongAllS; rw [Hw0.out, show max 1 v.marks.length = j by omega]; exact hno)
       have Hbr := Lib.hid hbr
       have HVE3 := Lib.hid (show VE = rangeE x v.marks by rw [HVE2.out, Hnw.out, whenI_false, firstNZ_pair]; simp)
       have k3 := (B6.out.bl hbr).all9
       clear hbr hno hj2
       go_wp2_with fail
       go_loopw [89] (fun u wy => ∃ i : Nat, i ≤ v.marks.length ∧ u = .int .i64 i ∧ Bl w6 wy ∧ ∀ (j : Nat) m, j < i → v.marks[j]? = some m → inB m 0 ((x.marks.length : Int) - 1) = true) (fun u _ => v.marks.length - (RowKit.intOf u).toNat)
       case atStart => exact ⟨0, Nat.zero_le _, rfl, Hbr.out, fun j m hj => absurd hj (Nat.not_lt_zero _)⟩
       case round =>
        clear k2 k3
        rename World => wy
        obtain ⟨i, hi, rfl, hby, hall⟩ := hrel
        have k2 := (B2.out.bl hby).all4
        have k3 := (B6.out.bl hby).all9
        by_cases hli : i < v.marks.length
        · exact absurd hli (by omega)
        · obtain rfl : i = v.marks.length := by omega
          have HX := Lib.hid (show VE = 0 by
           rw [HVE3.out]; unfold rangeE
           rw [show (v.marks.any fun m => !inB m 0 ((x.marks.length : Int) - 1)) = false from List.any_eq_false.2 fun m hm => by
            obtain ⟨j, hj⟩ := List.getElem?_of_mem hm
            rw [hall j m (List.getElem?_eq_some_iff.1 hj).1 hj]; decide]; rfl)
          go_wp2_with fail
          go_ret
          exact ⟨by rw [HX.out]; rfl, HPost.out _ hby⟩
end Go.Proofs.YthobmednnocklaaGreatDoor


/-! forms.Check is formErr. -/
namespace Go.Proofs.YthobmednnocklaaGreatDoor
open Go.RowKit Go.Shelf

set_option maxRecDepth 100000 in
set_option maxHeartbeats 8000000 in
theorem checkF_any (f : Frm) (w : World) (hF : FrmAt w f) (hS : f.small 1048576) (hN : NumOk w) (hC : SplitOk w) :
 Calls Tryz.prog 63 #[f.val] w fun e w' => e = .returned (.int .i64 f.err) ∧ Bl w w' := by
 obtain ⟨E, hE⟩ : ∃ y, y = f.err := ⟨_, rfl⟩
 rw [← hE]
 have HE := Lib.hid hE
 obtain ⟨nm, fW, fH, reach, dark, AL, ac, la, FL, fc, lf, RL, rc, lr⟩ := f
 let w1 := (w).alloc (.cells #[.string ⟨nm.toArray⟩, .int .i64 fW, .int .i64 fH, .int .i64 reach, .int .i64 dark, .slice AL la.length ac, .slice FL lf.length fc, .slice RL lr.length rc] 75)
 have w1b : Bl w w1 := (Bl.refl w).alloc _
 have w11 : Blk w1 (w.heap.size) 75 #[.string ⟨nm.toArray⟩, .int .i64 fW, .int .i64 fH, .int .i64 reach, .int .i64 dark, .slice AL la.length ac, .slice FL lf.length fc, .slice RL lr.length rc] := by
  have h0 := Blk.new (w) 75 #[.string ⟨nm.toArray⟩, .int .i64 fW, .int .i64 fH, .int .i64 reach, .int .i64 dark, .slice AL la.length ac, .slice FL lf.length fc, .slice RL lr.length rc]
  exact h0
 have HF := Lib.hid (hF.bl w1b); have HN := Lib.hid (hN.bl w1b); have HC := Lib.hid (hC.bl w1b); have HS := Lib.hid hS
 have hla := hF.an.2
 have hlf := hF.fn.2
 have hlr := hF.rn.2
 have hnm := fun wx => isName_any ⟨nm.toArray⟩ wx (by rw [Lib.size_mk]; exact hF.nm)
 have HNm := Lib.hid hnm
 have k1 := w11.all8
 have hmm := @run_makeMap Tryz.prog
 have HW1b := Lib.hid w1b
 unfold Frm.val
 clear hF hN hC hE hnm w1b hS
 go_enter Tryz.func63, Tryz.ntmps63
 go_wp2_with fail
 refine (HNm.out _).mono ?_
 rintro e w2 ⟨rfl, hb2⟩
 have Hb2 := Lib.hid hb2
 have k1 := (w11.bl hb2).all8
 clear hb2
 cases hN : nameB nm
 case false =>
  have HX := Lib.hid (show E = 5 by rw [HE.out]; unfold Frm.err formErr formHead; simp only [hN]; rfl)
  clear hN
  go_wp2_with fail
  go_ret
  exact ⟨by rw [HX.out]; rfl, HW1b.out.trans Hb2.out⟩
 have HNb := Lib.hid hN
 clear hN
 by_cases hz : sizeErr fW fH = 0
 case neg =>
  have HX := Lib.hid (show E = sizeErr fW fH by
   rw [HE.out]; unfold Frm.err formErr formHead
   simp only [HNb.out, Bool.not_true, whenI_false]
   rw [firstNZ_0, firstNZ_stop hz, firstNZ_stop hz])
  have hq : (sizeErr fW fH != 0) = true := by simp [hz]
  clear hz
  go_wp2_with (go_at_call 117; refine (checkSize_any _ _ _).mono ?_; rintro e w' ⟨rfl, rfl⟩)
  go_ret
  exact ⟨by rw [HX.out]; rfl, HW1b.out.trans Hb2.out⟩
 have hsz := sizeErr_zero hz
 obtain ⟨W, rfl⟩ := Int.eq_ofNat_of_zero_le (show 0 ≤ fW by omega)
 obtain ⟨H, rfl⟩ := Int.eq_ofNat_of_zero_le (show 0 ≤ fH by omega)
 have hW : 1 ≤ W ∧ W ≤ 4000 := by omega
 have hH : 1 ≤ H ∧ H ≤ 4000 := by omega
 have hhd : ∀ E1, formHead true W H reach dark la.length = E1 → E1 ≠ 0 → E = E1 := fun E1 h1 h2 => by
  rw [HE.out]; unfold Frm.err formErr
  simp only [HNb.out]
  rw [h1, firstNZ_stop h2]
 have hhd0 : formHead true W H reach dark la.length = firstNZ [whenI (!inB reach 0 40 || !inB dark 1 1000) 3, whenI (decide (10 < la.length)) 4] := by
  unfold formHead
  rw [hz]
  simp only [Bool.not_true, whenI_false]
  rw [firstNZ_0, firstNZ_0]
 have Hhd := Lib.hid hhd; have Hhd0 := Lib.hid hhd0; have HW := Lib.hid hW; have HH := Lib.hid hH
 have q0 : (sizeErr W H != 0) = false := by simp [hz]
 clear hsz hhd hhd0 hz
 go_upto_region 6 with (go_at_call 117; refine (checkSize_any _ _ _).mono ?_; rintro e w' ⟨rfl, rfl⟩)
 go_cut [29] from 30 to 48 (fun s29 wc => s29 = .bool (!inB reach 0 40 || !inB dark 1 1000) ∧ w2 = wc)
 case first =>
  rcases (show reach < 0 ∨ (¬ reach < 0 ∧ 40 < reach) ∨ (¬ reach < 0 ∧ ¬ 40 < reach ∧ dark < 1) ∨ (¬ reach < 0 ∧ ¬ 40 < reach ∧ ¬ dark < 1 ∧ 1000 < dark) ∨ (¬ reach < 0 ∧ ¬ 40 < reach ∧ ¬ dark < 1 ∧ ¬ 1000 < dark) by omega) with c1 | ⟨c1, c2⟩ | ⟨c1, c2, c3⟩ | ⟨c1, c2, c3, c4⟩ | ⟨c1, c2, c3, c4⟩
  all_goals
   go_wp2_with fail
   go_meet
   case rel => exact ⟨congrArg Value.bool (by unfold inB; simp; try omega), rfl⟩
 case rest =>
 rename World => wd
 obtain ⟨rfl, rfl⟩ := hcut
 obtain ⟨rg, hrg⟩ : ∃ b, b = (!inB reach 0 40 || !inB dark 1 1000) := ⟨_, rfl⟩
 rw [← hrg]
 have HRg := Lib.hid hrg
 clear hrg
 cases rg with
 | true =>
  have HX := Lib.hid (Hhd.out 3 (by rw [Hhd0.out, ← HRg.out]; rfl) (by decide))
  go_wp2_with fail
  go_ret
  exact ⟨by rw [HX.out]; rfl, HW1b.out.trans Hb2.out⟩
 | false =>
 by_cases h10 : 10 < la.length
 · have h10i : 10 < (la.length : Int) := by omega
   have HX := Lib.hid (Hhd.out 4 (by rw [Hhd0.out, ← HRg.out, decide_eq_true h10]; rfl) (by decide))
   go_wp2_with fail
   go_ret
   exact ⟨by rw [HX.out]; rfl, HW1b.out.trans Hb2.out⟩
 have h10i : ¬ 10 < (la.length : Int) := by omega
 have HE1 := Lib.hid (show E = firstNZ [ancsErr W H la, whenI (decide (lf.length = 0)) 9, whenI (decide (50 < lf.length)) 4, fldsErr W H [] lf, whenI (overB [] (boxesB la lf)) 11, whenI (decide (50 < lr.length)) 4, rulsErr lf lr] by
  rw [HE.out]; unfold Frm.err formErr
  simp only [HNb.out]
  rw [Hhd0.out, ← HRg.out, decide_eq_false h10]
  exact firstNZ_0)
 have h10n := Lib.hid h10
 have HFA := Lib.hid (HF.out.ancs.bl Hb2.out)
 have hca := fun (a : Anc) wx (hA : Reads wx 1 a.A a.m (a.bs.map .bool)) => checkAnchor_any ⟨nm, W, H, reach, dark, AL, ac, la, FL, fc, lf, RL, rc, lr⟩ a W H wx rfl rfl HW.out HH.out hA
 have hbx := fun (a : Anc) wx => anchorBox_any a wx
 unfold Frm.val Anc.val at hca
 unfold Anc.val Anc.box Bx.val at hbx
 have Hca := Lib.hid hca; have Hbx := Lib.hid hbx
 have W12 := Lib.hid (w11.bl Hb2.out)
 have hw2 := (w11.bl Hb2.out).lt
 clear hca hbx h10 w11
 go_wp2_with fail
 go_loopw [4, 56] (fun b u wr => ∃ i : Nat, i ≤ la.length ∧ u = .int .i64 i ∧ Bl w2 wr ∧ wr.ownsRow w2.heap.size 26 4 b i (bxCells ((la.take i).map Anc.box)) ∧ ancsErr W H (la.drop i) = ancsErr W H la) (fun _ u _ => la.length - (RowKit.intOf u).toNat)
 case atStart => exact ⟨0, Nat.zero_le _, rfl, Bl.refl _, World.ownsRow_nil _ _ _ _, rfl⟩
 case round =>
  obtain ⟨i, hi, rfl, hbr, hown, hes⟩ := hrel
  by_cases hlt : i < la.length
  · have hg : la[i]? = some la[i] := List.getElem?_eq_getElem hlt
    obtain ⟨a, ha⟩ : ∃ l, l = la[i] := ⟨_, rfl⟩
    rw [← ha] at hg
    obtain ⟨ad, e1, j1, j2, j3, j4, j5⟩ := (HFA.out.bl hbr).at_ hg
    have HAr := Lib.hid (HFA.out.2 a (List.mem_of_getElem? hg))
    have HG := Lib.hid hg; have HOw := Lib.hid hown; have HEs := Lib.hid hes; have Hbr := Lib.hid hbr
    have k1 := (W12.out.bl hbr).all8
    have hbsz := hbr.le
    clear hg ha hown hes
    rw [e1] at k1 ⊢
    go_upto_region 14 with fail
    obtain ⟨w5, hw5⟩ : ∃ x, x = wr.alloc (.cells #[.int .i64 a.W, .int .i64 a.H, .slice a.A a.m a.c, .int .i64 a.X, .int .i64 a.Y] 141) := ⟨_, rfl⟩
    have b5 : Blk w5 wr.heap.size 141 #[.int .i64 a.W, .int .i64 a.H, .slice a.A a.m a.c, .int .i64 a.X, .int .i64 a.Y] := by rw [hw5]; exact Blk.new _ _ _
    have hb5 : Bl wr w5 := by rw [hw5]; exact (Bl.refl _).alloc _
    rw [← hw5]
    have B5 := Lib.hid b5; have Hb5 := Lib.hid hb5
    have k1 := (W12.out.bl (hbr.trans hb5)).all8
    rw [e1] at k1
    have k2 := b5.all5
    clear hw5 b5 hb5 j1 j2 j3 j4 j5
    go_wp2_with fail
    rw [← e1]
    refine (Hca.out a _ (HAr.out.bl (Hbr.out.trans Hb5.out))).mono ?_
    rintro e w6 ⟨rfl, hb6⟩
    have Hb26 := Lib.hid (Hbr.out.trans (Hb5.out.trans hb6)); have Hbr6 := Lib.hid (Hb5.out.trans hb6)
    have k1 := (W12.out.bl Hb26.out).all8
    have k2 := (B5.out.bl hb6).all5
    clear hb6
    by_cases hz : ancErr W H a = 0
    · have hq : (ancErr W H a != 0) = false := by simp [hz]
      have HY := Lib.hid (show ancsErr W H (la.drop (i + 1)) = ancsErr W H la by rw [← HEs.out, ancsErr_from HG.out, if_pos hz])
      clear hz
      go_wp2_with fail
      refine (Hbx.out a _).mono ?_
      rintro e w7 ⟨rfl, hb7⟩
      have Hb27 := Lib.hid (Hb26.out.trans hb7)
      have hle7 := (Hb26.out.trans hb7).le
      have HO7 := Lib.hid (own_bl HOw.out (Hbr6.out.trans hb7))
      clear hb7
      go_wp2_with (at_builtin; refine wpList_append_bl (w1 := w2) rfl (.tmp 66) (.tmp 69) 134 rfl 26 (.agg #[.int .i64 0, .int .i64 0, .int .i64 0, .int .i64 0]) 4 32 Tryz.underlying134 info_bx rfl (by omega) w2.heap.size _ i (bxCells ((la.take i).map Anc.box)) rfl (Hb27.out.alloc _) (Nat.le_refl _) (by simp; omega) (HO7.out.alloc _) (some ⟨w7.heap.size, 0, none⟩) 1 1 [.int .i64 a.X, .int .i64 a.Y, .int .i64 a.W, .int .i64 a.H] rfl ((Blk.new w7 _ _).reads 1 4 rfl) (by simp [Value.oneCell']) (by unfold maxLen; omega) (by omega) ?_; intro v' w8 hown8 hb8 hg8; have HOw8 := Lib.hid hown8; have Hb8 := Lib.hid hb8; clear hown8 hb8 hg8)
      exact ⟨⟨i + 1, hlt, by go_num, Hb8.out, by rw [take_snoc HG.out, List.map_append, bxCells_append]; exact HOw8.out, HY.out⟩, by simp [RowKit.intOf]; omega⟩
    · have hq : (ancErr W H a != 0) = true := by simp [hz]
      have HX := Lib.hid (show E = ancErr W H a by
       have h1 : ancsErr W H la = ancErr W H a := by rw [← HEs.out, ancsErr_from HG.out, if_neg hz]
       rw [HE1.out, h1, firstNZ_stop hz])
      clear hz
      go_wp2_with fail
      go_ret
      exact ⟨by rw [HX.out]; rfl, HW1b.out.trans (Hb2.out.trans Hb26.out)⟩
  · obtain rfl : i = la.length := by omega
    have Hanc := Lib.hid (show ancsErr W H la = 0 by rw [← hes, List.drop_length]; rfl)
    rw [List.take_length] at hown
    have HOw := Lib.hid hown; have Hbr := Lib.hid hbr
    have k1 := (W12.out.bl hbr).all8
    have hbsz := hbr.le
    clear hes hown
    by_cases l0 : lf.length = 0
    · have q0 : ((lf.length : Int) == 0) = true := by rw [len0]; exact decide_eq_true l0
      have HX := Lib.hid (show E = 9 by rw [HE1.out, Hanc.out, firstNZ_0, decide_eq_true l0]; rfl)
      clear l0
      go_wp2_with fail
      go_ret
      exact ⟨by rw [HX.out]; rfl, HW1b.out.trans (Hb2.out.trans Hbr.out)⟩
    have q1 : ((lf.length : Int) == 0) = false := by rw [len0]; exact decide_eq_false l0
    by_cases l50 : 50 < lf.length
    · have l50i : 50 < (lf.length : Int) := by omega
      have HX := Lib.hid (show E = 4 by rw [HE1.out, Hanc.out, firstNZ_0, decide_eq_false l0, decide_eq_true l50]; rfl)
      clear l0
      go_wp2_with fail
      go_ret
      exact ⟨by rw [HX.out]; rfl, HW1b.out.trans (Hb2.out.trans Hbr.out)⟩
    have l50i : ¬ 50 < (lf.length : Int) := by omega
    have HE2 := Lib.hid (show E = firstNZ [fldsErr W H [] lf, whenI (overB [] (boxesB la lf)) 11, whenI (decide (50 < lr.length)) 4, rulsErr lf lr] by
     rw [HE1.out, Hanc.out, decide_eq_false l0, decide_eq_false l50, firstNZ_0, whenI_false, whenI_false, firstNZ_0, firstNZ_0])
    have hM0 := MapAt.new wr
    have Hb3 := Lib.hid (hbr.alloc (.map #[] 0))
    have Hgm := Lib.hid hbr.le
    have HOw0 := Lib.hid (own_bl HOw.out ((Bl.refl wr).alloc (.map #[] 0)))
    have HM0 := Lib.hid hM0
    have k1 := (W12.out.bl Hb3.out).all8
    have hlp : 0 < lf.length := by omega
    clear l0 hM0 hbr HOw
    go_upto_region 24 with fail
    obtain ⟨wm, hwm⟩ : ∃ x, x = wr.alloc (.map #[] 0) := ⟨_, rfl⟩
    rw [← hwm] at HM0 HOw0 Hb3 k1 ⊢
    obtain ⟨gm, hgm⟩ : ∃ g, g = wr.heap.size := ⟨_, rfl⟩
    rw [← hgm] at HM0 Hgm ⊢
    obtain ⟨adF, hFL, -⟩ := HF.out.flds.1.2 hlp
    simp only at hFL
    subst hFL
    have hcf := fun (x : Fld) (tw : Bool) wx (hM : BxsAt wx x.M x.marks) (h1 : x.name.length ≤ 9223372036854775807) (h2 : x.marks.length ≤ 9223372036854775807) => checkField_any ⟨nm, W, H, reach, dark, AL, ac, la, some adF, fc, lf, RL, rc, lr⟩ x tw W H wx rfl rfl HW.out HH.out hM h1 h2
    unfold Frm.val Fld.val at hcf
    have Hcf := Lib.hid hcf
    have HFF := Lib.hid (FldsAt.bl HF.out.flds Hb2.out)
    have hbx0 : boxesTo la lf 0 = la.map Anc.box := by simp [boxesTo, boxesB]
    have hl0 : (boxesTo la lf 0).length = la.length := by rw [hbx0, List.length_map]
    rw [← hbx0, ← hl0] at HOw0
    have h10f : (boxesTo la lf 0).length ≤ 10 := by rw [hl0]; have := h10n.out; omega
    have H10f := Lib.hid h10f
    clear hcf hwm hgm hbx0 hl0 hi hbsz hlt Hbr h10f hlp Hca Hbx HFA
    go_wp2_with fail
    go_loopw [4, 86] (fun b u wq => ∃ i : Nat, i ≤ lf.length ∧ u = .int .i64 i ∧ Bl w2 wq ∧ MapAt wq gm ((lf.take i).map Fld.name) ∧ wq.ownsRow w2.heap.size 26 4 b (boxesTo la lf i).length (bxCells (boxesTo la lf i)) ∧ fldsErr W H ((lf.take i).map Fld.name) (lf.drop i) = fldsErr W H [] lf ∧ (boxesTo la lf i).length ≤ 10 + 21 * i) (fun _ u _ => lf.length - (RowKit.intOf u).toNat)
    case atStart => exact ⟨0, Nat.zero_le _, rfl, Hb3.out, HM0.out, HOw0.out, rfl, H10f.out⟩
    case round =>
     clear HM0 HOw0 Hb3 H10f k1
     obtain ⟨i, hi, rfl, hbr, hMr, hown, hes, hbl⟩ := hrel
     by_cases hlt : i < lf.length
     · have hg : lf[i]? = some lf[i] := List.getElem?_eq_getElem hlt
       obtain ⟨x, hx⟩ : ∃ l, l = lf[i] := ⟨_, rfl⟩
       rw [← hx] at hg
       obtain ⟨ad', e1, j1, j2, j3, j4, j5, j6, j7, j8, j9⟩ := (HFF.out.bl hbr).at_ hg
       obtain rfl := Option.some.inj e1
       obtain ⟨hM, hmc, hml, hnl⟩ := HFF.out.2 x (List.mem_of_getElem? hg)
       have HG := Lib.hid hg; have HOw := Lib.hid hown; have HEs := Lib.hid hes; have Hbr := Lib.hid hbr; have HM := Lib.hid hM; have HMr := Lib.hid hMr
       have k1 := (W12.out.bl hbr).all8
       clear hg hx hown hes hM e1 hMr
       go_upto_region 27 with fail
       obtain ⟨w5, hw5⟩ : ∃ y, y = wr.alloc (.cells #[.string ⟨x.name.toArray⟩, .int .i64 x.kind, .int .i64 x.box.X, .int .i64 x.box.Y, .int .i64 x.box.W, .int .i64 x.box.H, .slice x.M x.marks.length x.mc, .int .i64 x.most, .bool x.needed] 136) := ⟨_, rfl⟩
       have b5 : Blk w5 wr.heap.size 136 #[.string ⟨x.name.toArray⟩, .int .i64 x.kind, .int .i64 x.box.X, .int .i64 x.box.Y, .int .i64 x.box.W, .int .i64 x.box.H, .slice x.M x.marks.length x.mc, .int .i64 x.most, .bool x.needed] := by rw [hw5]; exact Blk.new _ _ _
       have hb5 : Bl wr w5 := by rw [hw5]; exact (Bl.refl _).alloc _
       rw [← hw5]
       have B5 := Lib.hid b5; have Hb5 := Lib.hid hb5
       have k1 := (W12.out.bl (hbr.trans hb5)).all8
       have k2 := b5.all9
       have hM5 := HMr.out.bl hb5
       have hlk := hM5.lookup x.name
       have hgq : gm < wr.heap.size := by obtain ⟨es, c, h1, -, -⟩ := HMr.out; exact (Array.getElem?_eq_some_iff.1 h1).1
       obtain ⟨tw, htw⟩ : ∃ b, b = decide (x.name ∈ (lf.take i).map Fld.name) := ⟨_, rfl⟩
       rw [← htw] at hlk
       have Htw := Lib.hid htw; have HM5 := Lib.hid hM5
       clear hw5 b5 hb5 j1 j2 j3 j4 j5 j6 j7 j8 j9 htw hM5 hbr
       go_wp2_with fail
       refine (Hcf.out x tw _ (HM.out.bl (Hbr.out.trans Hb5.out)) hnl hml).mono ?_
       rintro e w6 ⟨rfl, hb6⟩
       have Hb26 := Lib.hid (Hbr.out.trans (Hb5.out.trans hb6)); have Hbr6 := Lib.hid (Hb5.out.trans hb6); have HM6 := Lib.hid (HM5.out.bl hb6)
       have k1 := (W12.out.bl Hb26.out).all8
       have k2 := (B5.out.bl hb6).all9
       have hfe : fldErr W H ((lf.take i).map Fld.name) x = fldE W H tw x := by rw [Htw.out]; rfl
       have Hfe := Lib.hid hfe
       by_cases hz : fldE W H tw x = 0
       · have hq : (fldE W H tw x != 0) = false := by simp [hz]
         have HY := Lib.hid (show fldsErr W H ((lf.take (i + 1)).map Fld.name) (lf.drop (i + 1)) = fldsErr W H [] lf by rw [← HEs.out, fldsErr_from HG.out, Hfe.out, if_pos hz])
         have hm20 := (fldE_ok hz).2.2.2.2.1
         obtain ⟨w7, hup, hM7, hB7, hK7⟩ := HM6.out.update2 x.name
         have hO6 := own_bl HOw.out Hbr6.out
         have hO7 := own_other hO6 hK7 (map_apart HM6.out hO6)
         have hk2' : Blk w7 wr.heap.size 136 #[.string ⟨x.name.toArray⟩, .int .i64 x.kind, .int .i64 x.box.X, .int .i64 x.box.Y, .int .i64 x.box.W, .int .i64 x.box.H, .slice x.M x.marks.length x.mc, .int .i64 x.most, .bool x.needed] := (hK7 _ (by omega)).trans (B5.out.bl hb6)
         have hgw2 : w2.heap.size ≤ gm := Hgm.out
         have hb7 : Bl w2 w7 := hB7 w2 Hb26.out hgw2
         have hle7 := hb7.le
         have k3 := hk2'.all9
         have hM7' : MapAt w7 gm ((lf.take (i + 1)).map Fld.name) := by rw [take_snoc HG.out, List.map_append]; exact hM7
         have HM7 := Lib.hid hM7'; have HO7 := Lib.hid hO7; have Hb7 := Lib.hid hb7; have HX7 := Lib.hid (HM.out.bl hb7); have HB7 := Lib.hid hk2'
         obtain ⟨n, hn⟩ : ∃ n, n = (boxesTo la lf i).length := ⟨_, rfl⟩
         have Hn := Lib.hid hn
         have hbi : n ≤ 10 + 21 * i := by rw [hn]; exact hbl
         have Hbs := Lib.hid (boxesTo_succ (la := la) HG.out)
         rw [← hn] at HO7
         clear hz hfe hM7 hB7 hK7 hO6 hO7 hk2' hM7' hb7 hb6 hn hlk hbl
         go_wp2_with fail
         refine (hasMarks_any _ _).mono ?_
         rintro e w' ⟨rfl, rfl⟩
         cases hmk : marksB x.kind with
         | true =>
          have HFB := Lib.hid (show fldBoxes x = x.marks by unfold fldBoxes; rw [hmk]; rfl)
          go_wp2_with (at_builtin; refine wpList_append_bl (w1 := w2) rfl (.tmp 112) (.tmp 114) 134 rfl 26 (.agg #[.int .i64 0, .int .i64 0, .int .i64 0, .int .i64 0]) 4 32 Tryz.underlying134 info_bx rfl (by omega) w2.heap.size _ n (bxCells (boxesTo la lf i)) rfl Hb7.out (Nat.le_refl _) hle7 HO7.out x.M x.marks.length x.mc (bxCells x.marks) rfl HX7.out (bx_one x.marks) (by unfold maxLen; omega) (by omega) ?_; intro v9 w9 hown9 hb9 hg9)
          have HM9 := Lib.hid (HM7.out.grown hg9 (map_apart HM7.out HO7.out)); have HO9 := Lib.hid hown9; have Hb9 := Lib.hid hb9
          clear hown9 hb9 hg9
          go_wp2_with fail
          have hlen : (boxesTo la lf (i + 1)).length = n + x.marks.length := by rw [Hbs.out, List.length_append, ← Hn.out, HFB.out]
          exact ⟨⟨i + 1, hlt, by go_num, Hb9.out, HM9.out, by rw [hlen, Hbs.out, bxCells_append, HFB.out]; exact HO9.out, HY.out, by rw [hlen]; omega⟩, by simp [RowKit.intOf]; omega⟩
         | false =>
          have HFB := Lib.hid (show fldBoxes x = x.box :: x.marks by unfold fldBoxes; rw [hmk]; rfl)
          go_upto_region 33 with (at_builtin; refine wpList_append_bl (w1 := w2) rfl (.tmp 107) (.tmp 110) 134 rfl 26 (.agg #[.int .i64 0, .int .i64 0, .int .i64 0, .int .i64 0]) 4 32 Tryz.underlying134 info_bx rfl (by omega) w2.heap.size _ n (bxCells (boxesTo la lf i)) rfl (Hb7.out.alloc _) (Nat.le_refl _) (by simp; omega) (HO7.out.alloc _) (some ⟨w7.heap.size, 0, none⟩) 1 1 [.int .i64 x.box.X, .int .i64 x.box.Y, .int .i64 x.box.W, .int .i64 x.box.H] rfl ((Blk.new w7 _ _).reads 1 4 rfl) (by simp [Value.oneCell']) (by unfold maxLen; omega) (by omega) ?_; intro v8 w8 hown8 hb8 hg8)
          have hle8 := hb8.le
          have hMl : MapAt (w7.alloc (.cells #[.int .i64 x.box.X, .int .i64 x.box.Y, .int .i64 x.box.W, .int .i64 x.box.H] 26)) gm ((lf.take (i + 1)).map Fld.name) := HM7.out.bl ((Bl.refl _).alloc _)
          have HM8 := Lib.hid (hMl.grown hg8 (map_apart HM7.out HO7.out)); have HO8 := Lib.hid hown8; have Hb8 := Lib.hid hb8; have HX8 := Lib.hid (HM.out.bl hb8)
          have k4 := ((HB7.out.alloc _).grown hg8 (fun e => Nat.ne_of_lt (HOw.out.lt _ e.symm).2 rfl)).all9
          clear hMl hown8 hb8 hg8 k3 k2
          go_wp2_with (at_builtin; refine wpList_append_bl (w1 := w2) rfl (.tmp 112) (.tmp 114) 134 rfl 26 (.agg #[.int .i64 0, .int .i64 0, .int .i64 0, .int .i64 0]) 4 32 Tryz.underlying134 info_bx rfl (by omega) w2.heap.size v8 (n + 1) (bxCells (boxesTo la lf i) ++ [.int .i64 x.box.X, .int .i64 x.box.Y, .int .i64 x.box.W, .int .i64 x.box.H]) rfl Hb8.out (Nat.le_refl _) hle8 HO8.out x.M x.marks.length x.mc (bxCells x.marks) rfl HX8.out (bx_one x.marks) (by unfold maxLen; omega) (by omega) ?_; intro v9 w9 hown9 hb9 hg9)
          have HM9 := Lib.hid (HM8.out.grown hg9 (map_apart HM8.out HO8.out)); have HO9 := Lib.hid hown9; have Hb9 := Lib.hid hb9
          clear hown9 hb9 hg9
          have hlen : (boxesTo la lf (i + 1)).length = n + 1 + x.marks.length := by rw [Hbs.out, List.length_append, ← Hn.out, HFB.out, List.length_cons]; omega
          exact ⟨⟨i + 1, hlt, by go_num, Hb9.out, HM9.out, by rw [hlen, Hbs.out, bxCells_append, HFB.out, show bxCells (x.box :: x.marks) = [.int .i64 x.box.X, .int .i64 x.box.Y, .int .i64 x.box.W, .int .i64 x.box.H] ++ bxCells x.marks from rfl, ← List.append_assoc]; exact HO9.out, HY.out, by rw [hlen]; omega⟩, by simp [RowKit.intOf]; omega⟩
       · have hq : (fldE W H tw x != 0) = true := by simp [hz]
         have HX := Lib.hid (show E = fldE W H tw x by
          have h1 : fldsErr W H [] lf = fldE W H tw x := by rw [← HEs.out, fldsErr_from HG.out, Hfe.out, if_neg hz]
          rw [HE2.out, h1, firstNZ_stop hz])
         clear hz
         go_wp2_with fail
         go_ret
         exact ⟨by rw [HX.out]; rfl, HW1b.out.trans (Hb2.out.trans Hb26.out)⟩
     · obtain rfl : i = lf.length := by omega
       have Hfld := Lib.hid (show fldsErr W H [] lf = 0 by rw [← hes, List.drop_length]; rfl)
       have hbe : boxesTo la lf lf.length = boxesB la lf := by unfold boxesTo; rw [List.take_length]
       rw [hbe] at hown hbl
       obtain ⟨bl, hbl'⟩ : ∃ l, l = boxesB la lf := ⟨_, rfl⟩
       rw [← hbl'] at hown hbl
       have hok : ∀ b ∈ bl, b.Ok := fun b hb => Bx.ok (W := W) (H := H) (by have := HW.out; omega) (by have := HH.out; omega) (boxes_ok Hanc.out Hfld.out b (by rw [← hbl']; exact hb))
       have HE3 := Lib.hid (show E = firstNZ [whenI (overB [] bl) 11, whenI (decide (50 < lr.length)) 4, rulsErr lf lr] by rw [HE2.out, Hfld.out, firstNZ_0, hbl'])
       obtain ⟨A, c, rfl, hr, -⟩ := own_new hown
       have hnc : 0 < bl.length → bl.length ≤ c := fun hp => by
        obtain ⟨g, cap, e, -, hle⟩ := own_some hown hp
        injection e with _ _ e3
        omega
       have HR := Lib.hid (show BxsAt wr A bl from hr); have Hok := Lib.hid hok; have Hbr := Lib.hid hbr
       have k1 := (W12.out.bl hbr).all8
       clear hes hMr hown hbe hbl' hok hr hbr
       have hcr := fun (r : Rul) wx (hF : FrmAt wx ⟨nm, W, H, reach, dark, AL, ac, la, some adF, fc, lf, RL, rc, lr⟩) h3 hN hC => checkRule_any _ r wx hF h3 hN hC
       unfold Frm.val Rul.val at hcr
       have Hcr := Lib.hid hcr
       have hblm : bl.length ≤ 9223372036854775807 := by omega
       have HW2b := Lib.hid (HW1b.out.trans Hb2.out)
       clear Hcf HFF hcr Hanc Hfld hi hlt hmm
       go_wp2_with fail
       go_loopw [119] (fun u wy => ∃ i : Nat, i ≤ bl.length ∧ u = .int .i64 i ∧ Bl wr wy ∧ overB (bl.take i) (bl.drop i) = overB [] bl) (fun u _ => bl.length - (RowKit.intOf u).toNat)
       case atStart => exact ⟨0, Nat.zero_le _, rfl, Bl.refl _, rfl⟩
       case round =>
        rename World => wb
        obtain ⟨i, hi, rfl, hbr, hov⟩ := hrel
        have HOv := Lib.hid hov; have Hwb := Lib.hid hbr
        clear hov k1
        by_cases hlt : i < bl.length
        · have hg : bl[i]? = some bl[i] := List.getElem?_eq_getElem hlt
          obtain ⟨b, hb⟩ : ∃ l, l = bl[i] := ⟨_, rfl⟩
          rw [← hb] at hg
          obtain ⟨ad, e1, j1, j2, j3, j4⟩ := BxsAt.at_ (BxsAt.bl HR.out hbr) hg
          subst e1
          have hic : (i : Int) ≤ (c : Int) := by have := hnc (by omega); omega
          have HG := Lib.hid hg
          clear hg hb hbr
          go_upto_region 38 with fail
          obtain ⟨w5, hw5⟩ : ∃ y, y = wb.alloc (.cells #[.int .i64 b.X, .int .i64 b.Y, .int .i64 b.W, .int .i64 b.H] 26) := ⟨_, rfl⟩
          have b5 : Blk w5 wb.heap.size 26 #[.int .i64 b.X, .int .i64 b.Y, .int .i64 b.W, .int .i64 b.H] := by rw [hw5]; exact Blk.new _ _ _
          have hb5 : Bl wb w5 := by rw [hw5]; exact (Bl.refl _).alloc _
          rw [← hw5]
          have hlb : (bl.take i).length = i := by rw [List.length_take]; omega
          have hcn := bxContains_any (some ad) c (bl.take i) 123 #[.pointer (some ⟨wb.heap.size, 0, none⟩)] b.over w5 ((BxsAt.bl HR.out (Hwb.out.trans hb5)).take i hi) (check1_tests _ b (bl.take i) w5 b5 (Hok.out b (List.mem_of_getElem? HG.out)) (fun y hy => Hok.out y (List.mem_of_mem_take hy))) (by omega)
          rw [hlb, any_over] at hcn
          obtain ⟨ov, hov⟩ : ∃ v, v = ((bl.take i).any fun p => b.over p) := ⟨_, rfl⟩
          rw [← hov] at hcn
          have Hcn := Lib.hid hcn; have Hov := Lib.hid hov; have Hb5 := Lib.hid (Hwb.out.trans hb5)
          clear hw5 b5 hb5 j1 j2 j3 j4 hlb hcn hov
          go_wp2_with fail
          refine Hcn.out.mono ?_
          rintro e w6 ⟨rfl, hb6⟩
          have Hb6 := Lib.hid (Hb5.out.trans hb6)
          clear hb6
          cases ov with
          | true =>
           have HX := Lib.hid (show E = 11 by
            have h1 : overB [] bl = true := by rw [← HOv.out, overB_from HG.out, ← Hov.out]; rfl
            rw [HE3.out, h1]; rfl)
           go_wp2_with fail
           go_ret
           exact ⟨by rw [HX.out]; rfl, HW2b.out.trans (Hbr.out.trans Hb6.out)⟩
          | false =>
           have HX := Lib.hid (show overB (bl.take (i + 1)) (bl.drop (i + 1)) = overB [] bl by rw [← HOv.out, overB_from HG.out, ← Hov.out]; rfl)
           go_wp2_with fail
           exact ⟨⟨i + 1, hlt, by go_num, Hb6.out, HX.out⟩, by simp [RowKit.intOf]; omega⟩
        · obtain rfl : i = bl.length := by omega
          have Hno := Lib.hid (show overB [] bl = false by rw [← HOv.out]; exact overB_end)
          have Hb3 := Lib.hid (Hbr.out.trans hbr)
          have k1 := (W12.out.bl Hb3.out).all8
          clear hbr
          by_cases l50r : 50 < lr.length
          · have l50ri : 50 < (lr.length : Int) := by omega
            have HX := Lib.hid (show E = 4 by rw [HE3.out, Hno.out, decide_eq_true l50r]; rfl)
            go_wp2_with fail
            go_ret
            exact ⟨by rw [HX.out]; rfl, HW2b.out.trans Hb3.out⟩
          have l50ri : ¬ 50 < (lr.length : Int) := by omega
          have HE4 := Lib.hid (show E = rulsErr lf lr by rw [HE3.out, Hno.out, decide_eq_false l50r, whenI_false, whenI_false, firstNZ_0, firstNZ_0]; unfold firstNZ; split <;> simp_all [firstNZ])
          have HFR := Lib.hid (RulsAt.bl HF.out.ruls Hb2.out)
          clear HOv Hwb hi hlt
          go_wp2_with fail
          go_loopw [137] (fun u wy => ∃ i : Nat, i ≤ lr.length ∧ u = .int .i64 i ∧ Bl w2 wy ∧ rulsErr lf (lr.drop i) = rulsErr lf lr) (fun u _ => lr.length - (RowKit.intOf u).toNat)
          case atStart => exact ⟨0, Nat.zero_le _, rfl, Hb3.out, rfl⟩
          case round =>
           clear k1
           rename World => wq
           obtain ⟨i, hi, rfl, hbq, hes⟩ := hrel
           by_cases hlt : i < lr.length
           · have hg : lr[i]? = some lr[i] := List.getElem?_eq_getElem hlt
             obtain ⟨r, hr⟩ : ∃ l, l = lr[i] := ⟨_, rfl⟩
             rw [← hr] at hg
             obtain ⟨ad2, e2, j1, j2, j3, j4⟩ := (HFR.out.bl hbq).at_ hg
             subst e2
             have HG := Lib.hid hg; have HEs := Lib.hid hes; have Hbq := Lib.hid hbq
             have k1 := (W12.out.bl hbq).all8
             clear hg hr hes
             go_upto_region 46 with fail
             obtain ⟨w5, hw5⟩ : ∃ y, y = wq.alloc (.cells #[.int .i64 r.kind, .string ⟨r.field.toArray⟩, .string ⟨r.other.toArray⟩, .string ⟨r.text.toArray⟩] 147) := ⟨_, rfl⟩
             have b5 : Blk w5 wq.heap.size 147 #[.int .i64 r.kind, .string ⟨r.field.toArray⟩, .string ⟨r.other.toArray⟩, .string ⟨r.text.toArray⟩] := by rw [hw5]; exact Blk.new _ _ _
             have hb5 : Bl wq w5 := by rw [hw5]; exact (Bl.refl _).alloc _
             rw [← hw5]
             have k1 := (W12.out.bl (hbq.trans hb5)).all8
             have k2 := b5.all4
             have Hb5 := Lib.hid (hbq.trans hb5)
             clear hw5 b5 hb5 j1 j2 j3 j4 hbq
             go_wp2_with fail
             refine (Hcr.out r _ (HF.out.bl (Hb2.out.trans Hb5.out)) (HS.out r (List.mem_of_getElem? HG.out)) (HN.out.bl (Hb2.out.trans Hb5.out)) (HC.out.bl (Hb2.out.trans Hb5.out))).mono ?_
             rintro e w6 ⟨rfl, hb6⟩
             have Hb6 := Lib.hid (Hb5.out.trans hb6)
             clear hb6 k1 k2
             by_cases hz : rulErr lf r = 0
             · have hq : (rulErr lf r != 0) = false := by simp [hz]
               have HX := Lib.hid (show rulsErr lf (lr.drop (i + 1)) = rulsErr lf lr by rw [← HEs.out, rulsErr_from HG.out, if_pos hz])
               clear hz
               go_wp2_with fail
               exact ⟨⟨i + 1, hlt, by go_num, Hb6.out, HX.out⟩, by simp [RowKit.intOf]; omega⟩
             · have hq : (rulErr lf r != 0) = true := by simp [hz]
               have HX := Lib.hid (show E = rulErr lf r by rw [HE4.out, ← HEs.out, rulsErr_from HG.out, if_neg hz])
               clear hz
               go_wp2_with fail
               go_ret
               exact ⟨by rw [HX.out]; rfl, HW2b.out.trans Hb6.out⟩
           · obtain rfl : i = lr.length := by omega
             have HX := Lib.hid (show E = 0 by rw [HE4.out, ← hes, List.drop_length]; rfl)
             go_wp2_with fail
             go_ret
             exact ⟨by rw [HX.out]; rfl, HW2b.out.trans hbq⟩
end Go.Proofs.YthobmednnocklaaGreatDoor


/-! forms.anchors; what a right form gives; bedlaw2.formed and little. -/
namespace Go.Proofs.YthobmednnocklaaGreatDoor
open Go.RowKit Go.Shelf

/-- A right form. -/
theorem fits_of {f : Frm} (h : f.err = 0) : ∃ W H r, Fits f W H r := by
 unfold Frm.err formErr at h
 have hz := firstNZ_zero h
 have hh := hz (formHead (nameB f.name) f.W f.H f.reach f.dark f.la.length) (by simp)
 have ha := hz (ancsErr f.W f.H f.la) (by simp)
 unfold formHead at hh
 have hy := firstNZ_zero hh
 have hs := sizeErr_zero (hy (sizeErr f.W f.H) (by simp))
 have hr := hy (whenI (!inB f.reach 0 40 || !inB f.dark 1 1000) 3) (by simp)
 have hl := hy (whenI (decide (10 < f.la.length)) 4) (by simp)
 obtain ⟨W, hW⟩ := Int.eq_ofNat_of_zero_le (show 0 ≤ f.W by omega)
 obtain ⟨H, hH⟩ := Int.eq_ofNat_of_zero_le (show 0 ≤ f.H by omega)
 have hi : inB f.reach 0 40 = true := by
  cases hc : inB f.reach 0 40 with
  | true => rfl
  | false => rw [hc] at hr; exact absurd hr (by simp [whenI])
 have hi2 := inB_true.1 hi
 obtain ⟨r, hr2⟩ := Int.eq_ofNat_of_zero_le hi2.1
 have e := Int.natCast_mul W H
 rw [hW, hH] at hs ha
 exact ⟨W, H, r, hW, hH, hr2, by omega, by omega, by omega, by omega, by
  apply Classical.byContradiction
  intro hn
  rw [decide_eq_true (show 10 < f.la.length by omega)] at hl
  exact absurd hl (by decide), fun a ha2 => ancsErr_ok ha a ha2⟩
/-- Small enough for all statements. -/
def littleB (f : Frm) : Bool := decide (f.W * f.H ≤ 40000) && (decide (f.reach ≤ 6) && decide (f.la.length ≤ 4))
set_option maxRecDepth 100000 in
set_option maxHeartbeats 1000000 in
theorem little_any (f : Frm) (W H r : Nat) (w : World) (hfit : Fits f W H r) : Calls Tryz.prog 29 #[f.val] w fun e w' => e = .returned (.bool (littleB f)) ∧ Bl w w' := by
 obtain ⟨nm, fW, fH, reach, dark, AL, ac, la, FL, fc, lf, RL, rc, lr⟩ := f
 obtain ⟨e1, e2, e3, hW, hH, hWH, hr, hla, -⟩ := hfit
 simp only at e1 e2 e3 hla
 subst e1 e2 e3
 obtain ⟨M, hM⟩ : ∃ M, M = W * H := ⟨_, rfl⟩
 have eM : (W : Int) * (H : Int) = (M : Int) := by rw [hM]; simp
 rw [← hM] at hWH
 have HX := Lib.hid (show littleB ⟨nm, W, H, r, dark, AL, ac, la, FL, fc, lf, RL, rc, lr⟩ = (decide ((M : Int) ≤ 40000) && (decide ((r : Int) ≤ 6) && decide ((la.length : Int) ≤ 4))) by
  unfold littleB
  simp only
  rw [eM, show decide (la.length ≤ 4) = decide ((la.length : Int) ≤ 4) from decide_eq_decide.2 (by omega)])
 let w1 := (w).alloc (.cells #[.string ⟨nm.toArray⟩, .int .i64 W, .int .i64 H, .int .i64 r, .int .i64 dark, .slice AL la.length ac, .slice FL lf.length fc, .slice RL lr.length rc] 75)
 have w1b : Bl w w1 := (Bl.refl w).alloc _
 have w11 : Blk w1 (w.heap.size) 75 #[.string ⟨nm.toArray⟩, .int .i64 W, .int .i64 H, .int .i64 r, .int .i64 dark, .slice AL la.length ac, .slice FL lf.length fc, .slice RL lr.length rc] := by
  have h0 := Blk.new (w) 75 #[.string ⟨nm.toArray⟩, .int .i64 W, .int .i64 H, .int .i64 r, .int .i64 dark, .slice AL la.length ac, .slice FL lf.length fc, .slice RL lr.length rc]
  exact h0
 have k1 := w11.all8
 unfold Frm.val
 clear hM
 rcases (show 40000 < (M : Int) ∨ ((M : Int) ≤ 40000 ∧ 6 < (r : Int)) ∨ ((M : Int) ≤ 40000 ∧ (r : Int) ≤ 6 ∧ 4 < (la.length : Int)) ∨ ((M : Int) ≤ 40000 ∧ (r : Int) ≤ 6 ∧ (la.length : Int) ≤ 4) by omega) with c1 | ⟨c1, c2⟩ | ⟨c1, c2, c3⟩ | ⟨c1, c2, c3⟩
 all_goals
  go_enter Tryz.func29, Tryz.ntmps29
  go_wp2_with fail
  go_ret
  exact ⟨by rw [HX.out]; first | (rw [decide_eq_false (show ¬ (M : Int) ≤ 40000 by omega)]; rfl) | (rw [decide_eq_true (show (M : Int) ≤ 40000 by omega), decide_eq_false (show ¬ (r : Int) ≤ 6 by omega)]; rfl) | (rw [decide_eq_true (show (M : Int) ≤ 40000 by omega), decide_eq_true (show (r : Int) ≤ 6 by omega), decide_eq_false (show ¬ (la.length : Int) ≤ 4 by omega)]; rfl) | (rw [decide_eq_true (show (M : Int) ≤ 40000 by omega), decide_eq_true (show (r : Int) ≤ 6 by omega), decide_eq_true (show (la.length : Int) ≤ 4 by omega)]; rfl), w1b⟩
/-! ### formed -/
def frm0 : Frm := ⟨[], 0, 0, 0, 0, none, 0, [], none, 0, [], none, 0, []⟩
def frmA : Frm := ⟨[97], 1, 1, 0, 1, none, 0, [], none, 0, [], none, 0, []⟩
theorem frmAt_bare (f : Frm) (w : World) (h1 : f.la = []) (h2 : f.lf = []) (h3 : f.lr = []) (hn : f.name.length ≤ 9223372036854775807) : FrmAt w f := by
 obtain ⟨nm, fW, fH, reach, dark, AL, ac, la, FL, fc, lf, RL, rc, lr⟩ := f
 simp only at h1 h2 h3 hn
 subst h1 h2 h3
 exact ⟨⟨⟨rfl, fun h => absurd h (Nat.lt_irrefl 0)⟩, fun a ha => by cases ha⟩, ⟨⟨rfl, fun h => absurd h (Nat.lt_irrefl 0)⟩, fun a ha => by cases ha⟩, ⟨⟨rfl, fun h => absurd h (Nat.lt_irrefl 0)⟩, fun a ha => by cases ha⟩, hn, ⟨Nat.zero_le _, Nat.zero_le _⟩, ⟨Nat.zero_le _, Nat.zero_le _⟩, ⟨Nat.zero_le _, Nat.zero_le _⟩⟩
set_option maxRecDepth 100000 in
set_option maxHeartbeats 1000000 in
theorem formed_any (w : World) (hN : NumOk w) (hC : SplitOk w) : Calls Tryz.prog 28 #[] w fun e w' => e = .returned (.bool true) ∧ Bl w w' := by
 have h1 := fun wx hN hC => checkF_any frm0 wx (frmAt_bare _ _ rfl rfl rfl (by decide)) (fun r hr => by cases hr) hN hC
 have h2 := fun wx hN hC => checkF_any frmA wx (frmAt_bare _ _ rfl rfl rfl (by decide)) (fun r hr => by cases hr) hN hC
 rw [show frm0.err = 5 by decide] at h1
 rw [show frmA.err = 9 by decide] at h2
 have H1 := Lib.hid h1; have H2 := Lib.hid h2; have HN := Lib.hid hN; have HC := Lib.hid hC
 clear h1 h2 hN hC
 go_enter Tryz.func28, Tryz.ntmps28
 go_wp2_with fail
 refine (H1.out _ HN.out HC.out).mono ?_
 rintro e w1 ⟨rfl, hb1⟩
 go_wp2_with fail
 refine (H2.out _ (HN.out.bl hb1) (HC.out.bl hb1)).mono ?_
 rintro e w2 ⟨rfl, hb2⟩
 go_wp2_with fail
 go_ret
 exact ⟨rfl, hb1.trans hb2⟩
end Go.Proofs.YthobmednnocklaaGreatDoor
