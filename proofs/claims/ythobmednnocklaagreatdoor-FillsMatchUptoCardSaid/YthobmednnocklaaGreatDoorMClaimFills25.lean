/- bedref2.FilledOf: a right form, filled, as the reference fills it. -/
import Derived.Test.YthobmednnocklaaGreatDoorMClaimFills24
import Derived.Test.YthobmednnocklaaGreatDoorMClaimFills18
import Derived.Test.YthobmednnocklaaGreatDoorMClaimFills16

namespace Go.Proofs.YthobmednnocklaaGreatDoor
open Go.RowKit Go.Shelf

theorem paperTo_length (W H : Nat) (la : List Anc) : ∀ i, (paperTo W H la i).length = W * H
 | 0 => List.length_replicate
 | i + 1 => by
  show (match la[i]? with | none => paperTo W H la i | some a => grid W H (pasteF (paperTo W H la i) a.bs W H a.W.toNat a.H.toNat a.X a.Y)).length = W * H
  split
  · exact paperTo_length W H la i
  · exact grid_length _ _ _
theorem filledOf1_any (x y : Nat) (w : World) : Calls Tryz.prog 78 #[.int .i64 x, .int .i64 y] w fun e w' => e = .returned (.bool true) ∧ Bl w w' := by
 go_enter Tryz.func78, Tryz.ntmps78
 go_wp2_with fail
 go_ret
 exact ⟨rfl, Bl.refl _⟩
theorem madeR_full (W H : Nat) (w : World) (hW : W ≤ 1048576) (hH : H ≤ 1048576) (hWH : W * H ≤ 1048576) :
 Calls Tryz.prog 45 #[.int .i64 W, .int .i64 H, .func (.func 78) #[] #[]] w fun e w' => ∃ v, e = .returned v ∧ NPage w.heap.size w' v W H ((grid W H (fun _ _ => true)).map Value.bool) ∧ Bl w w' :=
 Made_any W H (fun _ _ => true) _ _ w hW hH (by omega) ⟨enters Tryz.func78 (by kernel_rfl) rfl, fun wx x y _ _ _ => filledOf1_any x y wx⟩
set_option maxRecDepth 100000 in
set_option maxHeartbeats 16000000 in
theorem filledOf_any (f : Frm) (L : Option Addr) (c : Nat) (l : List Vlu) (fnm : List UInt8) (ht gap sp : Nat) (adl : Addr) (lc : Nat) (ls : List Ltr) (W H r : Nat) (w : World) (hf : f.err = 0) (hfit : Fits f W H r) (hF : FrmAt w f) (hL : VlusAt w L l) (hlc : l.length ≤ c) (hln : l.length ≤ 9223372036854775807) (hT : ∀ v ∈ l, v.text.length ≤ 1048576)
 (hLs : LtrsAt w (some adl) ls) (hR : Right ht gap sp ls) (hv : SubOk w) (hSp : SpOk w) :
 Calls Tryz.prog 30 #[f.val, .slice L l.length c, .agg #[.string ⟨fnm.toArray⟩, .int .i64 ht, .int .i64 gap, .int .i64 sp, .slice (some adl) ls.length lc]] w fun e w' => DrawnRes w.heap.size (fillR ls ht gap sp W H f.lf [] l (paperTo W H f.la f.la.length)).1 W H (fillR ls ht gap sp W H f.lf [] l (paperTo W H f.la f.la.length)).2 e w' ∧ Bl w w' := by
 have Hflds := Lib.hid (fun x (hx : x ∈ f.lf) => fields_ok hf hfit hx)
 have hve := fun (i : Nat) (v : Vlu) wx hF hL (hi : l[i]? = some v) => valueErrorS_any f L c l i v wx hF hL hlc hln hi
 have hpo := fun wx hF => paperOf_any f W H r wx hfit hF
 have hfa := fun (n : List UInt8) wx hF => fieldOf_any f n wx hF
 have hdr := fun (x : Fld) (v : Vlu) wx hL htl hv hT hb => drawnR_any x v fnm ht gap sp adl lc ls wx hL hR htl hv hT hb
 have e1 := hfit.fW
 have e2 := hfit.fH
 have hW := hfit.hW
 have hH := hfit.hH
 have hWH := hfit.hWH
 obtain ⟨FR, hFR⟩ : ∃ y, y = fillR ls ht gap sp W H f.lf [] l (paperTo W H f.la f.la.length) := ⟨_, rfl⟩
 rw [← hFR]
 obtain ⟨nm, fW, fH, reach, dark, AL, ac, la, FL, fc, lf, RL, rc, lr⟩ := f
 simp only at e1 e2
 subst e1 e2
 replace hFR : FR = fillR ls ht gap sp W H lf [] l (paperTo W H la la.length) := hFR
 replace Hflds : Hid (∀ x ∈ lf, (∀ b ∈ x.marks, ∃ X Y w h : Nat, b = ⟨X, Y, w, h⟩ ∧ 1 ≤ w ∧ 1 ≤ h ∧ X + w ≤ W ∧ Y + h ≤ H) ∧ (marksB x.kind = false → BoxOk x W H) ∧ x.marks.length ≤ 20 ∧ (1 ≤ x.kind ∧ x.kind ≤ 4)) := Hflds
 let w1 := (((w).alloc (.cells #[.string ⟨nm.toArray⟩, .int .i64 W, .int .i64 H, .int .i64 reach, .int .i64 dark, .slice AL la.length ac, .slice FL lf.length fc, .slice RL lr.length rc] 75)).alloc (.cells #[.string ⟨fnm.toArray⟩, .int .i64 ht, .int .i64 gap, .int .i64 sp, .slice (some adl) ls.length lc] 29)).alloc (.cells #[.int .i64 0, .int .i64 0, .slice none 0 0] 24)
 have w1b : Bl w w1 := (((Bl.refl w).alloc _).alloc _).alloc _
 have w11 : Blk w1 (w.heap.size) 75 #[.string ⟨nm.toArray⟩, .int .i64 W, .int .i64 H, .int .i64 reach, .int .i64 dark, .slice AL la.length ac, .slice FL lf.length fc, .slice RL lr.length rc] := by
  have h0 := Blk.new (w) 75 #[.string ⟨nm.toArray⟩, .int .i64 W, .int .i64 H, .int .i64 reach, .int .i64 dark, .slice AL la.length ac, .slice FL lf.length fc, .slice RL lr.length rc]
  exact ((h0.alloc _).alloc _)
 have w12 : Blk w1 (w.heap.size + 1) 29 #[.string ⟨fnm.toArray⟩, .int .i64 ht, .int .i64 gap, .int .i64 sp, .slice (some adl) ls.length lc] := by
  have h0 := Blk.new ((w).alloc (.cells #[.string ⟨nm.toArray⟩, .int .i64 W, .int .i64 H, .int .i64 reach, .int .i64 dark, .slice AL la.length ac, .slice FL lf.length fc, .slice RL lr.length rc] 75)) 29 #[.string ⟨fnm.toArray⟩, .int .i64 ht, .int .i64 gap, .int .i64 sp, .slice (some adl) ls.length lc]
  simp only [World.size_alloc] at h0
  exact (h0.alloc _)
 have w13 : Blk w1 (w.heap.size + 1 + 1) 24 #[.int .i64 0, .int .i64 0, .slice none 0 0] := by
  have h0 := Blk.new (((w).alloc (.cells #[.string ⟨nm.toArray⟩, .int .i64 W, .int .i64 H, .int .i64 reach, .int .i64 dark, .slice AL la.length ac, .slice FL lf.length fc, .slice RL lr.length rc] 75)).alloc (.cells #[.string ⟨fnm.toArray⟩, .int .i64 ht, .int .i64 gap, .int .i64 sp, .slice (some adl) ls.length lc] 29)) 24 #[.int .i64 0, .int .i64 0, .slice none 0 0]
  simp only [World.size_alloc] at h0
  exact h0
 have sz1 : w1.heap.size = w.heap.size + 1 + 1 + 1 := by simp [w1]
 unfold Frm.val at hve hpo hfa
 have HF := Lib.hid (hF.bl w1b); have HL := Lib.hid (hL.bl w1b); have HLs := Lib.hid (hLs.bl w1b); have HV := Lib.hid (hv.bl w1b); have HSp := Lib.hid (hSp.bl w1b)
 have Hve := Lib.hid hve; have Hpo := Lib.hid hpo; have Hfa := Lib.hid hfa; have HT := Lib.hid hT; have HFR := Lib.hid hFR; have Hdr := Lib.hid hdr; have Hmf := Lib.hid (fun W H wx a b c => madeR_full W H wx a b c)
 have k1 := w11.all8
 have HW1b := Lib.hid w1b
 unfold Frm.val
 clear hF hL hLs hv hSp hve hpo hfa hT hFR hf hfit w1b hdr
 go_enter Tryz.func30, Tryz.ntmps30
 go_upto_region 1 with fail
 rw [show ((w.alloc (.cells #[.string ⟨nm.toArray⟩, .int .i64 W, .int .i64 H, .int .i64 reach, .int .i64 dark, .slice AL la.length ac, .slice FL lf.length fc, .slice RL lr.length rc] 75)).alloc (.cells #[.string ⟨fnm.toArray⟩, .int .i64 ht, .int .i64 gap, .int .i64 sp, .slice (some adl) ls.length lc] 29)).alloc (.cells #[.int .i64 0, .int .i64 0, .slice none 0 0] 24) = w1 from rfl]
 clear_value w1
 go_upto_region 2 with (go_at_call 74; refine (Hpo.out _ HF.out).mono ?_; rintro e w2 ⟨v0, rfl, ⟨A0, c0, rfl, hr0, hn0⟩, hb2⟩)
 obtain ⟨p, hp⟩ : ∃ p, p = w2.heap.size := ⟨_, rfl⟩
 obtain ⟨w3, hw3⟩ : ∃ x, x = w2.alloc (.cells #[.int .i64 W, .int .i64 H, .slice A0 (W * H) c0] 24) := ⟨_, rfl⟩
 have b3 : Blk w3 p 24 #[.int .i64 W, .int .i64 H, .slice A0 (W * H) c0] := by rw [hw3, hp]; exact Blk.new _ _ _
 have hb3 : Bl w2 w3 := by rw [hw3]; exact (Bl.refl _).alloc _
 rw [← hw3, ← hp]
 have hpw : w1.heap.size ≤ p := by rw [hp]; exact hb2.le
 have Hpw := Lib.hid hpw
 have H0 := Lib.hid (show Bl w1 w3 ∧ Reads w3 1 A0 (W * H) ((paperTo W H la la.length).map .bool) ∧ (∀ ad, A0 = some ad → w1.heap.size ≤ ad.block) ∧ (paperTo W H la la.length).length = W * H from
  ⟨hb2.trans hb3, hr0.bl hb3, hn0, paperTo_length W H la la.length⟩)
 have B3 := Lib.hid b3
 clear hw3 b3 hb3 hb2 hr0 hn0 hp k1
 go_wp2_with fail
 go_loopw [22] (fun u wr => ∃ (i : Nat) (A : Option Addr) (ca : Nat) (pg : List Bool), i ≤ l.length ∧ u = .int .i64 i ∧ Bl w1 wr ∧ Blk wr p 24 #[.int .i64 W, .int .i64 H, .slice A (W * H) ca] ∧ Reads wr 1 A (W * H) (pg.map .bool) ∧ (∀ ad, A = some ad → w1.heap.size ≤ ad.block) ∧ pg.length = W * H ∧ Hid (fillR ls ht gap sp W H lf ((l.take i).map Vlu.field) (l.drop i) pg = FR)) (fun u _ => l.length - (RowKit.intOf u).toNat)
 case atStart => exact ⟨0, A0, c0, _, Nat.zero_le _, rfl, H0.out.1, B3.out, H0.out.2.1, H0.out.2.2.1, H0.out.2.2.2, Lib.hid HFR.out.symm⟩
 case round =>
  obtain ⟨i, A, ca, pg, hi, rfl, hbr, hbp, hbg, hgn, hpgl, hes⟩ := hrel
  by_cases hlt : i < l.length
  · have hg : l[i]? = some l[i] := List.getElem?_eq_getElem hlt
    obtain ⟨v, hv⟩ : ∃ x, x = l[i] := ⟨_, rfl⟩
    rw [← hv] at hg
    obtain ⟨tw, htw⟩ : ∃ b, b = decide (v.field ∈ (l.take i).map Vlu.field) := ⟨_, rfl⟩
    obtain ⟨VE, hVE⟩ : ∃ e, e = vluErrS lf tw v := ⟨_, rfl⟩
    obtain ⟨FV, hFV⟩ : ∃ e, e = fillV ls ht gap sp W H lf tw v pg := ⟨_, rfl⟩
    have hst := hes.out
    rw [fillR_from hg, ← htw, ← hFV] at hst
    obtain ⟨ad, eA, j1, j2, j3, j4⟩ := (HL.out.bl hbr).at_ hg
    subst eA
    have k1 := (w11.bl hbr).all8
    have Hst := Lib.hid hst; have HVE := Lib.hid hVE; have HFV := Lib.hid hFV; have Hbr := Lib.hid hbr; have HG := Lib.hid hg; have Hbp := Lib.hid hbp; have Hbg := Lib.hid hbg; have Hgn := Lib.hid hgn; have Hpgl := Lib.hid hpgl; have Htw := Lib.hid htw
    clear hg hv hes hVE hst hbr htw hFV hbp hbg hgn hpgl
    go_upto_region 5 with fail
    obtain ⟨w7, hw7⟩ : ∃ x, x = wr.alloc (.cells #[.string ⟨v.field.toArray⟩, .string ⟨v.text.toArray⟩, .slice v.M v.marks.length v.mc, .int .i64 v.sure] 132) := ⟨_, rfl⟩
    have b7 : Blk w7 wr.heap.size 132 #[.string ⟨v.field.toArray⟩, .string ⟨v.text.toArray⟩, .slice v.M v.marks.length v.mc, .int .i64 v.sure] := by rw [hw7]; exact Blk.new _ _ _
    have hb7 : Bl wr w7 := by rw [hw7]; exact (Bl.refl _).alloc _
    rw [← hw7]
    obtain ⟨tv, htv⟩ : ∃ t, t = wr.heap.size := ⟨_, rfl⟩
    rw [← htv] at b7 ⊢
    have B7 := Lib.hid b7; have Hb7 := Lib.hid (Hbr.out.trans hb7); have Hbr7 := Lib.hid hb7; have Htv := Lib.hid htv
    have k1 := (w11.bl Hb7.out).all8
    have hcall := Hve.out i v w7 (HF.out.bl Hb7.out) (HL.out.bl Hb7.out) HG.out
    rw [← Htw.out, ← HVE.out] at hcall
    have Hcall := Lib.hid hcall
    clear hw7 b7 hb7 j1 j2 j3 j4 hcall htv
    go_upto_region 6 with (go_at_call 75; refine Hcall.out.mono ?_; rintro e w8 ⟨rfl, hb8⟩)
    have Hb8 := Lib.hid (Hb7.out.trans hb8)
    have b8 := B7.out.bl hb8
    have p8 := Hbp.out.bl (Hbr7.out.trans hb8)
    have g8 := Hbg.out.bl (Hbr7.out.trans hb8)
    have k1 := (w11.bl Hb8.out).all8
    have k2 := b8.all4
    have B8 := Lib.hid b8; have P8 := Lib.hid p8; have G8 := Lib.hid g8
    have hle8 := Hb8.out.le
    clear b8 p8 g8 hb8
    by_cases hz : VE ≠ 0
    · have hq : (VE != 0) = true := by simp [hz]
      have HX := Lib.hid (show FR.1 = VE ∧ VE ≠ 0 by
       have h := Hst.out
       have h1 : FV.1 = VE := by rw [HFV.out, HVE.out]; exact fillV_err (by rw [← HVE.out]; exact hz)
       rw [if_neg (by rw [h1]; exact hz)] at h
       exact ⟨by rw [← h]; exact h1, hz⟩)
      have BZ := Lib.hid (w13.bl Hb8.out)
      have k3 := BZ.out.all3
      clear hz
      go_wp2_with fail
      obtain ⟨wS, hwS⟩ : ∃ wzz, wzz = ((w8.setCell ⟨w.heap.size + 1 + 1, 0, none⟩ (.int .i64 0)).setCell ⟨w.heap.size + 1 + 1, 1, none⟩ (.int .i64 0)).setCell ⟨w.heap.size + 1 + 1, 2, none⟩ (.slice none 0 0) := ⟨_, rfl⟩
      have bS : Blk wS (w.heap.size + 1 + 1) 24 #[.int .i64 0, .int .i64 0, .slice none 0 0] := by rw [hwS]; exact ((BZ.out.set_ 0 _).set_ 1 _).set_ 2 _
      have hS : Bl w wS := by rw [hwS]; exact (((HW1b.out.trans Hb8.out).setCell (by show w.heap.size ≤ w.heap.size + 1 + 1; omega) _).setCell (by show w.heap.size ≤ w.heap.size + 1 + 1; omega) _).setCell (by show w.heap.size ≤ w.heap.size + 1 + 1; omega) _
      rw [← hwS]
      have kF := bS.all3
      refine bodyPost_ret (v := .tuple #[.agg #[.int .i64 0, .int .i64 0, .slice none 0 0], .int .i64 VE]) (by simp [results, Tryz.results30, go_sem, kF]) rfl ⟨⟨0, 0, none, 0, 0, by rw [HX.out.1], Res.zero _ _ _ _ _ (by rw [HX.out.1]; exact HX.out.2)⟩, hS⟩
    have hz0 : VE = 0 := Classical.not_not.1 hz
    have hq : (VE != 0) = false := by simp [hz0]
    obtain ⟨x, hx, hww, hmr, -⟩ := vluErrS_some (HVE.out.symm.trans hz0)
    have Hx := Lib.hid hx; have Hww := Lib.hid hww; have Hmr := Lib.hid hmr; have Hz0 := Lib.hid (HVE.out.symm.trans hz0)
    clear hx hww hmr hz hz0
    have hfd := fun wx hF => Hfa.out v.field wx hF
    have Hfd := Lib.hid hfd
    clear hfd
    have hw8 : w8.heap.size ≤ w8.heap.size := Nat.le_refl _
    go_upto_region 8 with fail
    go_cut [12] from 35 to 43 (fun s wc => ∃ q, s = .pointer (some ⟨q, 0, none⟩) ∧ Blk wc q 136 #[.string ⟨x.name.toArray⟩, .int .i64 x.kind, .int .i64 x.box.X, .int .i64 x.box.Y, .int .i64 x.box.W, .int .i64 x.box.H, .slice x.M x.marks.length x.mc, .int .i64 x.most, .bool x.needed] ∧ w8.heap.size ≤ q ∧ Bl w8 wc)
    case first =>
     refine wp_region_tree (Bl w8) [(true, 0), (true, 1), (true, 2), (true, 3), (true, 4)] (.one 5 [(true, 6), (true, 7)] (.one 8 [] (.one 9 [] .none .none) .none) (.one 8 [] (.one 5 [(true, 6), (true, 7)] (.one 9 [] .none .none) .none) .none)) (by kernel_rfl) (by kernel_rfl) (by kernel_rfl) (by kernel_rfl) (Bl.drew (Bl.refl w8)) ?_
     obtain ⟨wxd, hwxd⟩ : ∃ wzz, wzz = (w8).drew := ⟨_, rfl⟩
     have HBD : Bl w8 wxd := by rw [hwxd]; exact Bl.drew (Bl.refl w8)
     rw [← hwxd]
     clear hwxd
     iterate 5
      apply FlowS.calm2 _ _ rfl rfl
      · intro w' hb' K' hK'
        obtain ⟨hc', hf'⟩ := hb'.rule
        go_simp
        try go_ints
        exact hK'
      · intro K' hK'
        simp only [sqA]
        exact hK'
     refine Tree.fork ?_
     refine Tree.part rfl ?_ ?_
     · skip
       go_wp2_with fail
       refine (Hfd.out _ (HF.out.bl (Hb8.out.trans HBD))).mono ?_
       rintro e wx5 ⟨ix, rfl, hix, bb5⟩
       rcases firstG_fld hix with ⟨h0, hk⟩ | ⟨j, x', rfl, hl, hk⟩
       · rw [Hx.out] at hk; cases hk
       obtain rfl : x = x' := Option.some.inj (Hx.out.symm.trans hk)
       obtain ⟨adF, eF, f1, f2, f3, f4, f5, f6, f7, f8, f9⟩ := FldsAt.at_ (HF.out.flds.bl Hb8.out) hl
       simp only at eF
       subst eF
       have hjl := (List.getElem?_eq_some_iff.1 hl).1
       have hln : lf.length ≤ 9223372036854775807 := HF.out.fn.2
       clear hix hk hl
       have HB5 : Bl w8 wx5 := (HBD).trans bb5
       go_wp2_with fail
       refine ⟨HB5, ?_⟩
       iterate 2
        apply FlowS.calm2 _ _ rfl rfl
        · intro w' hb' K' hK'
          obtain ⟨hc', hf'⟩ := hb'.rule
          go_simp
          try go_ints
          exact hK'
        · intro K' hK'
          simp only [sqA]
          exact hK'
       refine Tree.fork ?_
       refine Tree.part rfl ?_ ?_
       · skip
         go_wp2_with fail
         obtain ⟨wx8, hwx8⟩ : ∃ wzz, wzz = (wx5).alloc (.cells #[.string ⟨#[]⟩, .int .i64 0, .int .i64 0, .int .i64 0, .int .i64 0, .int .i64 0, .slice none 0 0, .int .i64 0, .bool false] 136) := ⟨_, rfl⟩
         have bk8 : Blk wx8 (wx5).heap.size 136 #[.string ⟨#[]⟩, .int .i64 0, .int .i64 0, .int .i64 0, .int .i64 0, .int .i64 0, .slice none 0 0, .int .i64 0, .bool false] := by rw [hwx8]; exact Blk.new _ _ _
         have bb8 : Bl wx5 wx8 := by rw [hwx8]; exact (Bl.refl _).alloc _
         rw [← hwx8]
         clear hwx8
         have HB8 : Bl w8 wx8 := (HB5).trans bb8
         refine ⟨HB8, ?_⟩
         refine Tree.fork ?_
         refine Tree.last rfl ?_ ?_
         · skip
           have kst := (bk8).all9
           go_wp2_with fail
           obtain ⟨wx9, hwx9⟩ : ∃ wzz, wzz = (((((((((wx8.setCell ⟨wx5.heap.size, 0, none⟩ (.string ⟨x.name.toArray⟩)).setCell ⟨wx5.heap.size, 1, none⟩ (.int .i64 x.kind)).setCell ⟨wx5.heap.size, 2, none⟩ (.int .i64 x.box.X)).setCell ⟨wx5.heap.size, 3, none⟩ (.int .i64 x.box.Y)).setCell ⟨wx5.heap.size, 4, none⟩ (.int .i64 x.box.W)).setCell ⟨wx5.heap.size, 5, none⟩ (.int .i64 x.box.H)).setCell ⟨wx5.heap.size, 6, none⟩ (.slice x.M x.marks.length x.mc)).setCell ⟨wx5.heap.size, 7, none⟩ (.int .i64 x.most)).setCell ⟨wx5.heap.size, 8, none⟩ (.bool x.needed)) := ⟨_, rfl⟩
           rw [← hwx9]
           have bk8_9 : Blk wx9 wx5.heap.size 136 #[.string ⟨x.name.toArray⟩, .int .i64 x.kind, .int .i64 x.box.X, .int .i64 x.box.Y, .int .i64 x.box.W, .int .i64 x.box.H, .slice x.M x.marks.length x.mc, .int .i64 x.most, .bool x.needed] := by rw [hwx9]; have h9 := ((((((((((bk8).set_ 0 (.string ⟨x.name.toArray⟩)).set_ 1 (.int .i64 x.kind)).set_ 2 (.int .i64 x.box.X)).set_ 3 (.int .i64 x.box.Y)).set_ 4 (.int .i64 x.box.W)).set_ 5 (.int .i64 x.box.H)).set_ 6 (.slice x.M x.marks.length x.mc)).set_ 7 (.int .i64 x.most)).set_ 8 (.bool x.needed)); simp only [List.setIfInBounds_toArray, List.set_cons_zero, List.set_cons_succ] at h9; exact h9
           have HB9 : Bl w8 wx9 := by rw [hwx9]; exact ((((((((((HB8).setCell (by exact HB5.le) _).setCell (by exact HB5.le) _).setCell (by exact HB5.le) _).setCell (by exact HB5.le) _).setCell (by exact HB5.le) _).setCell (by exact HB5.le) _).setCell (by exact HB5.le) _).setCell (by exact HB5.le) _).setCell (by exact HB5.le) _)
           clear kst hwx9
           refine ⟨HB9, ?_⟩
           refine FlowS.done ?_
           go_wp2_with fail
           go_meet
           case rel => exact ⟨_, rfl, bk8_9, HB5.le, HB9⟩
         exact Tree.nil
       exact Tree.nil
     refine Tree.part rfl ?_ ?_
     · skip
       go_wp2_with fail
       obtain ⟨wx8, hwx8⟩ : ∃ wzz, wzz = (wxd).alloc (.cells #[.string ⟨#[]⟩, .int .i64 0, .int .i64 0, .int .i64 0, .int .i64 0, .int .i64 0, .slice none 0 0, .int .i64 0, .bool false] 136) := ⟨_, rfl⟩
       have bk8 : Blk wx8 (wxd).heap.size 136 #[.string ⟨#[]⟩, .int .i64 0, .int .i64 0, .int .i64 0, .int .i64 0, .int .i64 0, .slice none 0 0, .int .i64 0, .bool false] := by rw [hwx8]; exact Blk.new _ _ _
       have bb8 : Bl wxd wx8 := by rw [hwx8]; exact (Bl.refl _).alloc _
       rw [← hwx8]
       clear hwx8
       have HB8 : Bl w8 wx8 := (HBD).trans bb8
       refine ⟨HB8, ?_⟩
       refine Tree.fork ?_
       refine Tree.part rfl ?_ ?_
       · skip
         go_wp2_with fail
         refine (Hfd.out _ (HF.out.bl (Hb8.out.trans HB8))).mono ?_
         rintro e wx5 ⟨ix, rfl, hix, bb5⟩
         rcases firstG_fld hix with ⟨h0, hk⟩ | ⟨j, x', rfl, hl, hk⟩
         · rw [Hx.out] at hk; cases hk
         obtain rfl : x = x' := Option.some.inj (Hx.out.symm.trans hk)
         obtain ⟨adF, eF, f1, f2, f3, f4, f5, f6, f7, f8, f9⟩ := FldsAt.at_ (HF.out.flds.bl Hb8.out) hl
         simp only at eF
         subst eF
         have hjl := (List.getElem?_eq_some_iff.1 hl).1
         have hln : lf.length ≤ 9223372036854775807 := HF.out.fn.2
         clear hix hk hl
         have HB5 : Bl w8 wx5 := (HB8).trans bb5
         have bk8_5 := (bk8).bl bb5
         go_wp2_with fail
         refine ⟨HB5, ?_⟩
         iterate 2
          apply FlowS.calm2 _ _ rfl rfl
          · intro w' hb' K' hK'
            obtain ⟨hc', hf'⟩ := hb'.rule
            go_simp
            try go_ints
            exact hK'
          · intro K' hK'
            simp only [sqA]
            exact hK'
         refine Tree.fork ?_
         refine Tree.last rfl ?_ ?_
         · skip
           have kst := (bk8_5).all9
           go_wp2_with fail
           obtain ⟨wx9, hwx9⟩ : ∃ wzz, wzz = (((((((((wx5.setCell ⟨wxd.heap.size, 0, none⟩ (.string ⟨x.name.toArray⟩)).setCell ⟨wxd.heap.size, 1, none⟩ (.int .i64 x.kind)).setCell ⟨wxd.heap.size, 2, none⟩ (.int .i64 x.box.X)).setCell ⟨wxd.heap.size, 3, none⟩ (.int .i64 x.box.Y)).setCell ⟨wxd.heap.size, 4, none⟩ (.int .i64 x.box.W)).setCell ⟨wxd.heap.size, 5, none⟩ (.int .i64 x.box.H)).setCell ⟨wxd.heap.size, 6, none⟩ (.slice x.M x.marks.length x.mc)).setCell ⟨wxd.heap.size, 7, none⟩ (.int .i64 x.most)).setCell ⟨wxd.heap.size, 8, none⟩ (.bool x.needed)) := ⟨_, rfl⟩
           rw [← hwx9]
           have bk8_9 : Blk wx9 wxd.heap.size 136 #[.string ⟨x.name.toArray⟩, .int .i64 x.kind, .int .i64 x.box.X, .int .i64 x.box.Y, .int .i64 x.box.W, .int .i64 x.box.H, .slice x.M x.marks.length x.mc, .int .i64 x.most, .bool x.needed] := by rw [hwx9]; have h9 := ((((((((((bk8_5).set_ 0 (.string ⟨x.name.toArray⟩)).set_ 1 (.int .i64 x.kind)).set_ 2 (.int .i64 x.box.X)).set_ 3 (.int .i64 x.box.Y)).set_ 4 (.int .i64 x.box.W)).set_ 5 (.int .i64 x.box.H)).set_ 6 (.slice x.M x.marks.length x.mc)).set_ 7 (.int .i64 x.most)).set_ 8 (.bool x.needed)); simp only [List.setIfInBounds_toArray, List.set_cons_zero, List.set_cons_succ] at h9; exact h9
           have HB9 : Bl w8 wx9 := by rw [hwx9]; exact ((((((((((HB5).setCell (by exact HBD.le) _).setCell (by exact HBD.le) _).setCell (by exact HBD.le) _).setCell (by exact HBD.le) _).setCell (by exact HBD.le) _).setCell (by exact HBD.le) _).setCell (by exact HBD.le) _).setCell (by exact HBD.le) _).setCell (by exact HBD.le) _)
           clear kst hwx9
           refine ⟨HB9, ?_⟩
           refine FlowS.done ?_
           go_wp2_with fail
           go_meet
           case rel => exact ⟨_, rfl, bk8_9, HBD.le, HB9⟩
         exact Tree.nil
       exact Tree.nil
     exact Tree.nil
    case rest =>
    rename World => w9
    obtain ⟨q, rfl, bq, hqn, hb9⟩ := hcut
    have hxm : x ∈ lf := List.mem_of_find?_eq_some Hx.out
    obtain ⟨hxmk, hxbox, hx20, hxk⟩ := Hflds.out x hxm
    have Hxmk := Lib.hid hxmk; have Hxbox := Lib.hid hxbox
    have HMx := Lib.hid (HF.out.flds.2 x hxm).1
    have B9 := Lib.hid (B8.out.bl hb9); have P9 := Lib.hid (P8.out.bl hb9); have G9 := Lib.hid (G8.out.bl hb9); have BQ := Lib.hid bq; have Hb9 := Lib.hid (Hb8.out.trans hb9)
    have hne9 : tv ≠ p ∧ q ≠ p := ⟨by have := Hbp.out.lt; have := Htv.out; omega, by have := P8.out.lt; omega⟩
    have Hne9 := Lib.hid hne9
    have HVs := Lib.hid (HL.out.2 v (List.mem_of_getElem? HG.out))
    obtain ⟨PG9, hPG9⟩ : ∃ f, f = marksTo W H x v.marks pg := ⟨_, rfl⟩
    have HPGl := Lib.hid (show ∀ j, (PG9 j).length = W * H by rw [hPG9]; exact marksTo_len Hpgl.out)
    have HPGs := Lib.hid (show ∀ (j n : Nat) (b : Bx), v.marks[j]? = some (n : Int) → x.marks[n]? = some b → PG9 (j + 1) = markB W H (PG9 j) b by rw [hPG9]; exact fun j n b h1 h2 => marksTo_succ h1 h2)
    have HPG9 := Lib.hid hPG9
    have G9' := Lib.hid (show Reads w9 1 A (W * H) ((PG9 0).map .bool) by rw [hPG9]; exact G9.out)
    have k2 := B9.out.all4
    have hvm : v.marks.length ≤ 9223372036854775807 := HVs.out.2.2.2
    have hmk0 : x.marks.length ≤ 9223372036854775807 := by omega
    clear bq hb9 hxm hxmk hxbox hPG9 hne9 k1
    go_wp2_with fail
    go_loopw [46] (fun u wy => ∃ (jj : Nat) (Ay : Option Addr) (cy : Nat), jj ≤ v.marks.length ∧ u = .int .i64 jj ∧ Bl w1 wy ∧ Hid (∀ k, k < w9.heap.size → k ≠ p → wy.heap[k]? = w9.heap[k]?) ∧ Blk wy p 24 #[.int .i64 W, .int .i64 H, .slice Ay (W * H) cy] ∧ Reads wy 1 Ay (W * H) ((PG9 jj).map .bool) ∧ (∀ ad, Ay = some ad → w1.heap.size ≤ ad.block) ∧ w9.heap.size ≤ wy.heap.size) (fun u _ => v.marks.length - (RowKit.intOf u).toNat)
    case atStart => exact ⟨0, A, ca, Nat.zero_le _, rfl, Hb9.out, Lib.hid (fun _ _ _ => rfl), P9.out, G9'.out, Hgn.out, Nat.le_refl _⟩
    case round =>
     clear k2
     rename World => wy
     obtain ⟨jj, Ay, cy, hjj, rfl, hby, hky, hpy, hgy, hny, hsy⟩ := hrel
     have BY := Lib.hid (show Blk wy tv 132 #[.string ⟨v.field.toArray⟩, .string ⟨v.text.toArray⟩, .slice v.M v.marks.length v.mc, .int .i64 v.sure] from (hky.out _ B9.out.lt Hne9.out.1).trans B9.out)
     have QY := Lib.hid (show Blk wy q 136 #[.string ⟨x.name.toArray⟩, .int .i64 x.kind, .int .i64 x.box.X, .int .i64 x.box.Y, .int .i64 x.box.W, .int .i64 x.box.H, .slice x.M x.marks.length x.mc, .int .i64 x.most, .bool x.needed] from (hky.out _ BQ.out.lt Hne9.out.2).trans BQ.out)
     have k2 := BY.out.all4
     have k3 := QY.out.all9
     have Hby := Lib.hid hby; have Hky := Lib.hid hky.out; have Hgy := Lib.hid hgy; have PY := Lib.hid hpy; have Hny := Lib.hid hny
     by_cases hjlt : jj < v.marks.length
     · have hgm : v.marks[jj]? = some v.marks[jj] := List.getElem?_eq_getElem hjlt
       obtain ⟨m0, hm0⟩ : ∃ z, z = v.marks[jj] := ⟨_, rfl⟩
       rw [← hm0] at hgm
       obtain ⟨hm1, hm2⟩ := Hmr.out m0 (List.mem_of_getElem? hgm)
       obtain ⟨n, rfl⟩ := Int.eq_ofNat_of_zero_le hm1
       have hnl : n < x.marks.length := by omega
       have hbx : x.marks[n]? = some x.marks[n] := List.getElem?_eq_getElem hnl
       obtain ⟨b, hb0⟩ : ∃ z, z = x.marks[n] := ⟨_, rfl⟩
       rw [← hb0] at hbx
       have hstp := HPGs.out jj n b hgm hbx
       obtain ⟨X, Y, bw, bh, rfl, hw1, hh1, hXW, hYH⟩ := Hxmk.out b (List.mem_of_getElem? hbx)
       obtain ⟨adM, u1, eM, hu, hc1⟩ := (HVs.out.1.bl hby).at_ hjlt
       have hu1 : u1 = .int .i64 n := by
        rw [List.getElem?_map, hgm] at hu
        exact (Option.some.inj hu).symm
       subst hu1
       obtain ⟨adB, eB, c1, c2, c3, c4⟩ := BxsAt.at_ (HMx.out.bl hby) hbx
       simp only at c1 c2 c3 c4
       have Hstp := Lib.hid hstp; have HeM := Lib.hid eM; have HeB := Lib.hid eB
       rw [eM] at k2
       rw [eB] at k3
       clear hgm hm0 hbx hb0 hstp hu hm1 hm2 eM eB hby hky hgy hpy hny
       rw [HeM.out]
       go_upto_region 13 with fail
       obtain ⟨wz1, hwz1⟩ : ∃ z, z = wy.alloc (.cells #[.int .i64 X, .int .i64 Y, .int .i64 bw, .int .i64 bh] 26) := ⟨_, rfl⟩
       obtain ⟨bt, hbt⟩ : ∃ z, z = wy.heap.size := ⟨_, rfl⟩
       have bz : Blk wz1 bt 26 #[.int .i64 X, .int .i64 Y, .int .i64 bw, .int .i64 bh] := by rw [hwz1, hbt]; exact Blk.new _ _ _
       have hbz : Bl wy wz1 := by rw [hwz1]; exact (Bl.refl _).alloc _
       rw [← hwz1, ← hbt]
       have Hbz := Lib.hid (Hby.out.trans hbz); have Hyz := Lib.hid hbz; have PZ := Lib.hid (PY.out.bl hbz); have GZ := Lib.hid (Hgy.out.bl hbz)
       have k4 := bz.all4
       have k5 := PZ.out.all3
       have hbwl : bw * bh ≤ 1048576 := Nat.le_trans (Nat.mul_le_mul (show bw ≤ W by omega) (show bh ≤ H by omega)) hWH
       have Hmk := Lib.hid (fun wx => Hmf.out bw bh wx (by omega) (by omega) hbwl)
       obtain ⟨PJ, hPJ⟩ : ∃ z, z = PG9 jj := ⟨_, rfl⟩
       rw [← hPJ] at GZ Hstp
       have hgr : grid W H (pasteF PJ (grid bw bh fun _ _ => true) W H bw bh X Y) = PG9 (jj + 1) := by
        rw [Hstp.out]
        exact grid_congr _ _ _ _ fun u' v' _ _ => fillF_paste rfl hXW hYH hw1 hh1
       have Hgr := Lib.hid hgr
       have hszp : p < wz1.heap.size := PZ.out.lt
       clear hwz1 hbt bz hbz k2 k3 c1 c2 c3 c4 hc1 hgr hPJ hbwl
       refine wp_region_flow [(true, 0), (true, 1), (true, 2), (true, 3), (true, 4), (true, 6), (true, 7), (true, 8), (true, 9), (false, 5), (false, 10), (false, 11)] (fun i => i == 11) (by kernel_rfl) (by kernel_rfl) (by kernel_rfl) (by kernel_rfl) ?_
       iterate 9
        apply Flow.calm2 _ _ rfl rfl
        · intro w' hb' K' hK'
          obtain ⟨hc', hf'⟩ := hb'.rule
          go_simp
          try go_ints
          exact hK'
        · intro K' hK'
          simp only [sqA]
          exact hK'
       apply Flow.move rfl
       go_wp2_with fail
       refine (Hmk.out _).mono ?_
       rintro e wm ⟨vm, rfl, ⟨Am, cm, rfl, hrm, hnm⟩, HB1⟩
       have hbm : Bl wz1 wm := Bl.ofDrew HB1
       have hcall := pasteOf_any W H bw bh _ _ PJ (grid bw bh fun _ _ => true) X Y wm ⟨Ay, cy, rfl, GZ.out.bl hbm⟩ ⟨Am, cm, rfl, hrm⟩ (by omega) (by omega) (by omega) (by omega)
       rw [Hgr.out] at hcall
       go_wp2_with fail
       refine ⟨fun _ => (by first | exact HB1 | exact Bl.refl _), ?_⟩
       apply Flow.move rfl
       go_wp2_with fail
       refine hcall.mono ?_
       rintro e w6 ⟨v6, rfl, ⟨A6, c6, rfl, hg6, hgn6⟩, HB2⟩
       have hb6 : Bl wz1 w6 := hbm.trans HB2
       have HP6 := Lib.hid (PZ.out.bl hb6)
       have k2 := HP6.out.all3
       have Hb6 := Lib.hid (Hbz.out.trans hb6); have Hz6 := Lib.hid hb6
       have HG6 := Lib.hid hg6
       have Hgn6 := Lib.hid (show ∀ ad, A6 = some ad → wz1.heap.size ≤ ad.block from fun ad h => Nat.le_trans hbm.le (hgn6 ad h))
       clear hg6 hgn6 hb6 hrm hnm hcall
       go_wp2_with fail
       refine ⟨fun _ => (by first | exact HB2 | exact Bl.refl _), ?_⟩
       refine Flow.tail _ rfl ?_
       go_wp2_with fail
       refine ⟨⟨jj + 1, A6, c6, hjlt, by go_num, ((Hb6.out.setCell Hpw.out _).setCell Hpw.out _).setCell Hpw.out _, Lib.hid (fun k hk hne => ?_), ((HP6.out.set_ 0 _).set_ 1 _).set_ 2 _, ((HG6.out.store Hgn6.out hszp _).store Hgn6.out hszp _).store Hgn6.out hszp _, fun ad h => Nat.le_trans Hbz.out.le (Hgn6.out ad h), ?_⟩, by simp [RowKit.intOf]; omega⟩
       · refine ((((Below.heap_setCell _ _ _ _ hne).trans (Below.heap_setCell _ _ _ _ hne)).trans (Below.heap_setCell _ _ _ _ hne)).trans ?_)
         exact (bl_block Hz6.out k (by have := Hyz.out.le; omega)).trans ((bl_block Hyz.out k (by omega)).trans (Hky.out k hk hne))
       · rw [World.size_setCell, World.size_setCell, World.size_setCell]
         have := Hz6.out.le
         have := Hyz.out.le
         omega
     · obtain rfl : jj = v.marks.length := by omega
       obtain ⟨te, hte⟩ : ∃ b, v.text.isEmpty = b := ⟨_, rfl⟩
       obtain ⟨PE, hPE⟩ : ∃ z, z = PG9 v.marks.length := ⟨_, rfl⟩
       have HPE := Lib.hid (show marksTo W H x v.marks pg v.marks.length = PE by rw [hPE, HPG9.out])
       have HPEl := Lib.hid (show PE.length = W * H by rw [hPE]; exact HPGl.out _)
       have HGE := Lib.hid (show Reads wy 1 Ay (W * H) (PE.map .bool) by rw [hPE]; exact Hgy.out)
       obtain ⟨mk, hmk⟩ : ∃ b, marksB x.kind = b := ⟨_, rfl⟩
       have Hmr2 := Lib.hid (fun wx => show Calls Tryz.prog 79 #[.int .i64 x.kind] wx fun e w' => e = .returned (.bool mk) ∧ wx = w' by rw [← hmk]; exact marksR_any x.kind wx)
       clear hPE hgy hby hky hpy hny
       by_cases hskip : mk = true ∨ te = true
       · have hnil : v.text = [] := by
          rcases hskip with h | h
          · rcases hv0 : v.text with _ | ⟨a, b⟩
            · rfl
            · have := text_marks Hww.out (by rw [hv0]; simp)
              rw [hmk, h] at this
              cases this
          · rw [h] at hte
            simpa using hte
         have HX := Lib.hid (show fillR ls ht gap sp W H lf ((l.take (i + 1)).map Vlu.field) (l.drop (i + 1)) PE = FR by
          have h := Hst.out
          rw [HFV.out, fillV_none Hz0.out Hx.out hnil, HPE.out] at h
          exact (if_pos (show ((0 : Int), PE).1 = 0 from rfl)).symm.trans h)
         have hte2 : te = true := by rw [← hte, hnil]; rfl
         subst hte2
         clear hnil hskip hmk
         cases mk with
         | true =>
          go_wp2_with (go_at_call 79; refine (Hmr2.out _).mono ?_; rintro e w' ⟨rfl, rfl⟩)
          exact ⟨⟨i + 1, Ay, cy, PE, hlt, by go_num, Hby.out, PY.out, HGE.out, Hny.out, HPEl.out, HX⟩, by simp [RowKit.intOf]; omega⟩
         | false =>
          go_wp2_with (go_at_call 79; refine (Hmr2.out _).mono ?_; rintro e w' ⟨rfl, rfl⟩)
          exact ⟨⟨i + 1, Ay, cy, PE, hlt, by go_num, Hby.out, PY.out, HGE.out, Hny.out, HPEl.out, HX⟩, by simp [RowKit.intOf]; omega⟩
       · obtain ⟨hm0, ht0⟩ : mk = false ∧ te = false := by
          cases mk <;> cases te <;> simp at hskip ⊢
         subst hm0 ht0
         have hne : v.text ≠ [] := fun e => by rw [e] at hte; cases hte
         have hbox := Hxbox.out hmk
         obtain ⟨bh0, hbH, hbh, hbW, hbWH⟩ := box_size hbox (by omega) (by omega) hWH
         obtain ⟨E0, hE0⟩ : ∃ e, e = drawnER ls ht gap sp x v.text := ⟨_, rfl⟩
         obtain ⟨DW, hDW⟩ : ∃ e, e = drawnW ls gap sp x v.text := ⟨_, rfl⟩
         obtain ⟨DH, hDH⟩ : ∃ e, e = drawnH ht x := ⟨_, rfl⟩
         obtain ⟨DB, hDB⟩ : ∃ e, e = drawnB ls ht gap sp x v.text := ⟨_, rfl⟩
         obtain ⟨DE, hDE⟩ : ∃ e, e = drawnE ls ht gap sp x v.text := ⟨_, rfl⟩
         have HDE := Lib.hid (show DE = if E0 = 0 then whenI (decide (x.box.W < (DW : Int)) || decide (x.box.H < (DH : Int))) 15 else E0 by rw [hDE, hE0, hDW, hDH]; exact drawnER_eq (fun _ => hbH))
         have HDs := Lib.hid (fun (h : E0 = 0) => show DW ≤ 4000 ∧ DH ≤ 4000 by rw [hDW, hDH]; exact drawnER_size (fun _ => ⟨bh0, hbH, hbh.2⟩) (hE0.symm.trans h))
         have HFVe := Lib.hid (show FV = if DE = 0 then (0, grid W H (pasteF PE DB W H DW DH x.box.X x.box.Y)) else (DE, []) by
          rw [HFV.out, fillV_text Hz0.out Hx.out hne, HPE.out, hDE, hDB, hDW, hDH])
         have hcall := Hdr.out x v wy (HLs.out.bl Hby.out) (HT.out v (List.mem_of_getElem? HG.out)) (HV.out.bl Hby.out) (HSp.out.bl Hby.out) (fun _ => ⟨bh0, hbH, hbh.2⟩)
         rw [← hE0, ← hDW, ← hDH, ← hDB] at hcall
         unfold Fld.val Vlu.val at hcall
         have Hcall2 := Lib.hid hcall
         have Hbox := Lib.hid hbox
         have k4 := (w12.bl Hby.out).all5
         clear hne hbH hbWH hE0 hDW hDH hDB hDE hcall hbox hskip
         go_upto_region 16 with (go_at_call 79; refine (Hmr2.out _).mono ?_; rintro e w' ⟨rfl, rfl⟩)
         go_upto_region 17 with (go_at_call 80; refine Hcall2.out.mono ?_; rintro e wd ⟨⟨a, b, R, m, d, rfl, hres⟩, hbd⟩)
         obtain ⟨wt, hwt⟩ : ∃ z, z = wd.alloc (.cells #[.int .i64 a, .int .i64 b, .slice R m d] 24) := ⟨_, rfl⟩
         have bt : Blk wt wd.heap.size 24 #[.int .i64 a, .int .i64 b, .slice R m d] := by rw [hwt]; exact Blk.new _ _ _
         have hbt : Bl wd wt := by rw [hwt]; exact (Bl.refl _).alloc _
         rw [← hwt]
         have hyt := hbd.trans hbt
         have Hbt := Lib.hid (Hby.out.trans hyt); have Hyt := Lib.hid hyt
         have QT := Lib.hid (QY.out.bl hyt); have PT := Lib.hid (PY.out.bl hyt); have GT := Lib.hid (HGE.out.bl hyt); have Hres := Lib.hid (hres.bl hbt)
         have k3 := QT.out.all9
         have k5 := bt.all3
         have hlet := Hbt.out.le
         clear hwt bt hbt hbd hyt hres k2 k4
         by_cases hz : E0 ≠ 0
         · have hq : (E0 != 0) = true := by simp [hz]
           have HX := Lib.hid (show FR.1 = E0 ∧ E0 ≠ 0 by
            have h := Hst.out
            have hd : DE = E0 := by rw [HDE.out, if_neg hz]
            rw [HFVe.out, hd, if_neg hz, if_neg (show ¬ (E0, ([] : List Bool)).1 = 0 from hz)] at h
            exact ⟨by rw [← h], hz⟩)
           have BZ := Lib.hid (w13.bl Hbt.out)
           clear hz
           have k3 := BZ.out.all3
           go_upto_region 18 with fail
           go_cut [7] from 84 to 86 (fun s wc => s = .int .i64 E0 ∧ wc = ((wt.setCell ⟨w.heap.size + 1 + 1, 0, none⟩ (.int .i64 0)).setCell ⟨w.heap.size + 1 + 1, 1, none⟩ (.int .i64 0)).setCell ⟨w.heap.size + 1 + 1, 2, none⟩ (.slice none 0 0))
           case first =>
            go_wp2_with fail
            go_meet
            case rel => exact ⟨rfl, rfl⟩
           case rest =>
           rename World => wS
           obtain ⟨rfl, hwS⟩ := hcut
           have bS : Blk wS (w.heap.size + 1 + 1) 24 #[.int .i64 0, .int .i64 0, .slice none 0 0] := by rw [hwS]; exact ((BZ.out.set_ 0 _).set_ 1 _).set_ 2 _
           have hS : Bl w wS := by rw [hwS]; exact (((HW1b.out.trans Hbt.out).setCell (by show _ ≤ _ + 1 + 1; omega) _).setCell (by show _ ≤ _ + 1 + 1; omega) _).setCell (by show _ ≤ _ + 1 + 1; omega) _
           have kF := bS.all3
           go_step
           go_step
           dsimp +zetaDelta only [Exit.inBlock, Exit.then]
           refine bodyPost_ret (v := .tuple #[.agg #[.int .i64 0, .int .i64 0, .slice none 0 0], .int .i64 E0]) (by simp [results, Tryz.results30, go_sem, kF]) rfl (show DrawnRes w.heap.size FR.1 W H FR.2 (.returned (.tuple #[.agg #[.int .i64 0, .int .i64 0, .slice none 0 0], .int .i64 E0])) wS ∧ Bl w wS from ⟨⟨0, 0, none, 0, 0, by rw [HX.out.1], Res.zero _ _ _ _ _ (by rw [HX.out.1]; exact HX.out.2)⟩, hS⟩)
         have hz0 : E0 = 0 := Classical.not_not.1 hz
         have hq : (E0 != 0) = false := by simp [hz0]
         obtain ⟨R1, c1, eq1, hR1, hRn1⟩ := Hres.out.1 hz0
         simp only [Value.agg.injEq, Array.mk.injEq, List.cons.injEq, Value.int.injEq, Value.slice.injEq, and_true, true_and] at eq1
         obtain ⟨rfl, rfl, rfl, rfl, rfl⟩ := eq1
         obtain ⟨hdw4, hdh4⟩ := HDs.out hz0
         have HR1 := Lib.hid hR1
         obtain ⟨OV, hOV⟩ : ∃ b, b = (decide (x.box.W < (DW : Int)) || decide (x.box.H < (DH : Int))) := ⟨_, rfl⟩
         have HDE2 := Lib.hid (show DE = whenI OV 15 by rw [HDE.out, if_pos hz0, hOV])
         have HOV := Lib.hid hOV
         subst hz0
         clear hz hOV hR1 hRn1
         go_upto_region 19 with fail
         go_cut [99] from 86 to 100 (fun s wc => s = .bool OV ∧ wt = wc)
         case first =>
          by_cases hA : x.box.W < (DW : Int)
          · have HG2 := Lib.hid (show OV = true by rw [HOV.out, decide_eq_true hA]; rfl)
            go_wp2_with fail
            go_meet
            case rel => exact ⟨by rw [HG2.out], rfl⟩
          · by_cases hB : x.box.H < (DH : Int)
            · have HG2 := Lib.hid (show OV = true by rw [HOV.out, decide_eq_true hB, Bool.or_true])
              go_wp2_with fail
              go_meet
              case rel => exact ⟨by rw [HG2.out], rfl⟩
            · have HG2 := Lib.hid (show OV = false by rw [HOV.out, decide_eq_false hA, decide_eq_false hB]; rfl)
              go_wp2_with fail
              go_meet
              case rel => exact ⟨by rw [HG2.out], rfl⟩
         case rest =>
         rename World => wt2
         obtain ⟨rfl, rfl⟩ := hcut
         cases OV with
         | true =>
          have HX := Lib.hid (show FR.1 = 15 by
           have hd : DE = 15 := by rw [HDE2.out]; rfl
           have h := Hst.out
           rw [HFVe.out, hd, if_neg (show ¬ ((15 : Int) = 0) by decide), if_neg (show ¬ ((15 : Int), ([] : List Bool)).1 = 0 by decide)] at h
           rw [← h])
          have BZ := Lib.hid (w13.bl Hbt.out)
          have k3 := BZ.out.all3
          go_upto_region 20 with fail
          go_cut [7] from 100 to 101 (fun s wc => s = .int .i64 15 ∧ wc = ((wt.setCell ⟨w.heap.size + 1 + 1, 0, none⟩ (.int .i64 0)).setCell ⟨w.heap.size + 1 + 1, 1, none⟩ (.int .i64 0)).setCell ⟨w.heap.size + 1 + 1, 2, none⟩ (.slice none 0 0))
          case first =>
           go_wp2_with fail
           go_meet
           case rel => exact ⟨rfl, rfl⟩
          case rest =>
          rename World => wS
          obtain ⟨rfl, hwS⟩ := hcut
          have bS : Blk wS (w.heap.size + 1 + 1) 24 #[.int .i64 0, .int .i64 0, .slice none 0 0] := by rw [hwS]; exact ((BZ.out.set_ 0 _).set_ 1 _).set_ 2 _
          have hS : Bl w wS := by rw [hwS]; exact (((HW1b.out.trans Hbt.out).setCell (by show _ ≤ _ + 1 + 1; omega) _).setCell (by show _ ≤ _ + 1 + 1; omega) _).setCell (by show _ ≤ _ + 1 + 1; omega) _
          have kF := bS.all3
          go_step
          go_step
          dsimp +zetaDelta only [Exit.inBlock, Exit.then]
          refine bodyPost_ret (v := .tuple #[.agg #[.int .i64 0, .int .i64 0, .slice none 0 0], .int .i64 15]) (by simp [results, Tryz.results30, go_sem, kF]) rfl (show DrawnRes w.heap.size FR.1 W H FR.2 (.returned (.tuple #[.agg #[.int .i64 0, .int .i64 0, .slice none 0 0], .int .i64 15])) wS ∧ Bl w wS from ⟨⟨0, 0, none, 0, 0, by rw [HX.out], Res.zero _ _ _ _ _ (by rw [HX.out]; decide)⟩, hS⟩)
         | false =>
         have hDE0 : DE = 0 := by rw [HDE2.out]; rfl
         obtain ⟨PN, hPN⟩ : ∃ z, z = grid W H (pasteF PE DB W H DW DH x.box.X x.box.Y) := ⟨_, rfl⟩
         have HPNl := Lib.hid (show PN.length = W * H by rw [hPN]; exact grid_length _ _ _)
         have HX := Lib.hid (show fillR ls ht gap sp W H lf ((l.take (i + 1)).map Vlu.field) (l.drop (i + 1)) PN = FR by
          have h := Hst.out
          rw [HFVe.out, if_pos hDE0, ← hPN] at h
          exact (if_pos (show ((0 : Int), PN).1 = 0 from rfl)).symm.trans h)
         have hcall := pasteOf_any W H DW DH _ _ PE DB x.box.X x.box.Y wt ⟨Ay, cy, rfl, GT.out⟩ ⟨R, d, rfl, HR1.out⟩ (by omega) (by omega) hdw4 hdh4
         rw [← hPN] at hcall
         have Hcall3 := Lib.hid hcall
         have k3 := QT.out.all9
         have k2 := PT.out.all3
         clear hcall hDE0 hPN
         go_upto_region 21 with fail
         go_wp2_with (go_at_call 77; refine Hcall3.out.mono ?_; rintro e w6 ⟨v6, rfl, ⟨A6, c6, rfl, hg6, hgn6⟩, hb6⟩; have HP6 := Lib.hid (PT.out.bl hb6); have k2 := HP6.out.all3; have Hb6 := Lib.hid (Hbt.out.trans hb6); have hpt : p < wt.heap.size := PT.out.lt; have HG6 := Lib.hid hg6; have Hgn6 := Lib.hid hgn6; have Hlt := Lib.hid hlet; clear hg6 hgn6 hb6 k3 k5)
         exact ⟨⟨i + 1, A6, c6, PN, hlt, by go_num, ((Hb6.out.setCell Hpw.out _).setCell Hpw.out _).setCell Hpw.out _, ((HP6.out.set_ 0 _).set_ 1 _).set_ 2 _, ((HG6.out.store Hgn6.out hpt _).store Hgn6.out hpt _).store Hgn6.out hpt _, fun ad h => Nat.le_trans Hlt.out (Hgn6.out ad h), HPNl.out, HX⟩, by simp [RowKit.intOf]; omega⟩
  · obtain rfl : i = l.length := by omega
    have HX := Lib.hid (show FR = (0, pg) by
     have h := hes.out
     rw [List.drop_length] at h
     exact h.symm)
    have k2 := hbp.all3
    have BZ := Lib.hid (w13.bl hbr)
    have k3 := BZ.out.all3
    have Hbw := Lib.hid (HW1b.out.trans hbr)
    have HG := Lib.hid hbg
    have hfar : ∀ ad, A = some ad → ad.block ≠ w.heap.size + 1 + 1 := fun ad h => by have := hgn ad h; omega
    have hfar2 : ∀ ad, A = some ad → w.heap.size ≤ ad.block := fun ad h => by have := hgn ad h; omega
    have Hfar := Lib.hid hfar; have Hfar2 := Lib.hid hfar2
    clear hbr hbp hbg hgn hpgl hes hfar hfar2
    go_wp2_with fail
    obtain ⟨wS, hwS⟩ : ∃ wzz, wzz = ((wr.setCell ⟨w.heap.size + 1 + 1, 0, none⟩ (.int .i64 W)).setCell ⟨w.heap.size + 1 + 1, 1, none⟩ (.int .i64 H)).setCell ⟨w.heap.size + 1 + 1, 2, none⟩ (.slice A (W * H) ca) := ⟨_, rfl⟩
    have bS : Blk wS (w.heap.size + 1 + 1) 24 #[.int .i64 W, .int .i64 H, .slice A (W * H) ca] := by rw [hwS]; exact ((BZ.out.set_ 0 _).set_ 1 _).set_ 2 _
    have hS : Bl w wS := by rw [hwS]; exact ((Hbw.out.setCell (by show w.heap.size ≤ w.heap.size + 1 + 1; omega) _).setCell (by show w.heap.size ≤ w.heap.size + 1 + 1; omega) _).setCell (by show w.heap.size ≤ w.heap.size + 1 + 1; omega) _
    have rS := by have h := ((HG.out.far2 (p := ⟨w.heap.size + 1 + 1, 0, none⟩) Hfar.out (.int .i64 W)).far2 (p := ⟨w.heap.size + 1 + 1, 1, none⟩) Hfar.out (.int .i64 H)).far2 (p := ⟨w.heap.size + 1 + 1, 2, none⟩) Hfar.out (.slice A (W * H) ca); rw [← hwS] at h; exact h
    rw [← hwS]
    have kF := bS.all3
    refine bodyPost_ret (v := .tuple #[.agg #[.int .i64 W, .int .i64 H, .slice A (W * H) ca], .int .i64 0]) (by simp [results, Tryz.results30, go_sem, kF]) rfl ⟨⟨_, _, _, _, _, by rw [HX.out], Res.page (by rw [HX.out]) (by rw [HX.out]; exact rS) Hfar2.out⟩, hS⟩
end Go.Proofs.YthobmednnocklaaGreatDoor
