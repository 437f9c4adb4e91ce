/- The law FillsMatch answers true. -/
import Derived.Test.YthobmednnocklaaGreatDoorMClaimFills24
import Derived.Test.YthobmednnocklaaGreatDoorMClaimFills17
import Derived.Test.YthobmednnocklaaGreatDoorMClaimFills18
import Derived.Test.YthobmednnocklaaGreatDoorMClaimFills21
import Derived.Test.YthobmednnocklaaGreatDoorMClaimFills2
import Derived.Test.YthobmednnocklaaGreatDoorMClaimFills25
import Derived.Test.YthobmednnocklaaGreatDoorMClaimFills5
import Derived.Test.YthobmednnocklaaGreatDoorMClaimFills9

namespace Go.Proofs.YthobmednnocklaaGreatDoor
open Go.RowKit Go.Shelf

set_option maxRecDepth 100000 in
set_option maxHeartbeats 16000000 in
theorem fill_ok (f : Frm) (L : Option Addr) (c : Nat) (l : List Vlu) (fnm : List UInt8) (ht gap sp : Nat) (adl : Addr) (lc : Nat) (ls : List Ltr) (W H r : Nat) (w : World) (hf : f.err = 0) (hfit : Fits f W H r) (hF : FrmAt w f) (hL : VlusAt w L l) (hln : l.length ≤ 9223372036854775807) (hS : f.small 1048576) (hT : ∀ v ∈ l, v.text.length ≤ 1048576)
 (hLs : LtrsAt w (some adl) ls) (hfnm : fnm.length ≤ 9223372036854775807) (hlsn : ls.length ≤ 9223372036854775807) (hfe : fontErr (nameB fnm) ht gap sp ls = 0) (hN : NumOk w) (hC : SplitOk w) (hv : SubOk w) (hSp : SpOk w) :
 Calls Tryz.prog 26 #[f.val, .slice L l.length c, .agg #[.string ⟨fnm.toArray⟩, .int .i64 ht, .int .i64 gap, .int .i64 sp, .slice (some adl) ls.length lc]] w fun e w' => DrawnRes w.heap.size (fillR ls ht gap sp W H f.lf [] l (paperTo W H f.la f.la.length)).1 W H (fillR ls ht gap sp W H f.lf [] l (paperTo W H f.la f.la.length)).2 e w' ∧ Bl w w' := by
 have Hflds := Lib.hid (fun x (hx : x ∈ f.lf) => fields_ok hf hfit hx)
 have hck := fun wx hF hN hC => checkF_any f wx hF hS hN hC
 have hcv := fun (w0 : World) (v : Vlu) (gm : Nat) ks wx hb0 hg hF hV hvl hM => checkValueS_any w0 f v gm ks wx hb0 hg hF hV hvl hM
 have hpp := fun wx hF => paper_any f W H r wx hfit hF
 have hfa := fun (n : List UInt8) wx hF => fieldAt_any f n wx hF
 have e1 := hfit.fW
 have e2 := hfit.fH
 have hW := hfit.hW
 have hH := hfit.hH
 have hWH := hfit.hWH
 have hs0 : sizeErr (W : Int) (H : Int) = 0 := by
  have := Int.natCast_mul W H
  unfold sizeErr
  rw [if_pos (by omega), if_neg (by omega)]
 rw [hf] at hck
 obtain ⟨FR, hFR⟩ : ∃ y, y = fillR ls ht gap sp W H f.lf [] l (paperTo W H f.la f.la.length) := ⟨_, rfl⟩
 rw [← hFR]
 obtain ⟨nm, fW, fH, reach, dark, AL, ac, la, FL, fc, lf, RL, rc, lr⟩ := f
 simp only at e1 e2
 subst e1 e2
 replace hFR : FR = fillR ls ht gap sp W H lf [] l (paperTo W H la la.length) := hFR
 replace Hflds : Hid (∀ x ∈ lf, (∀ b ∈ x.marks, ∃ X Y w h : Nat, b = ⟨X, Y, w, h⟩ ∧ 1 ≤ w ∧ 1 ≤ h ∧ X + w ≤ W ∧ Y + h ≤ H) ∧ (marksB x.kind = false → BoxOk x W H) ∧ x.marks.length ≤ 20 ∧ (1 ≤ x.kind ∧ x.kind ≤ 4)) := Hflds
 let w1 := (((w).alloc (.cells #[.string ⟨nm.toArray⟩, .int .i64 W, .int .i64 H, .int .i64 reach, .int .i64 dark, .slice AL la.length ac, .slice FL lf.length fc, .slice RL lr.length rc] 75)).alloc (.cells #[.string ⟨fnm.toArray⟩, .int .i64 ht, .int .i64 gap, .int .i64 sp, .slice (some adl) ls.length lc] 29)).alloc (.cells #[.int .i64 0, .int .i64 0, .slice none 0 0] 24)
 have w1b : Bl w w1 := (((Bl.refl w).alloc _).alloc _).alloc _
 have w11 : Blk w1 (w.heap.size) 75 #[.string ⟨nm.toArray⟩, .int .i64 W, .int .i64 H, .int .i64 reach, .int .i64 dark, .slice AL la.length ac, .slice FL lf.length fc, .slice RL lr.length rc] := by
  have h0 := Blk.new (w) 75 #[.string ⟨nm.toArray⟩, .int .i64 W, .int .i64 H, .int .i64 reach, .int .i64 dark, .slice AL la.length ac, .slice FL lf.length fc, .slice RL lr.length rc]
  exact ((h0.alloc _).alloc _)
 have w12 : Blk w1 (w.heap.size + 1) 29 #[.string ⟨fnm.toArray⟩, .int .i64 ht, .int .i64 gap, .int .i64 sp, .slice (some adl) ls.length lc] := by
  have h0 := Blk.new ((w).alloc (.cells #[.string ⟨nm.toArray⟩, .int .i64 W, .int .i64 H, .int .i64 reach, .int .i64 dark, .slice AL la.length ac, .slice FL lf.length fc, .slice RL lr.length rc] 75)) 29 #[.string ⟨fnm.toArray⟩, .int .i64 ht, .int .i64 gap, .int .i64 sp, .slice (some adl) ls.length lc]
  simp only [World.size_alloc] at h0
  exact (h0.alloc _)
 have w13 : Blk w1 (w.heap.size + 1 + 1) 24 #[.int .i64 0, .int .i64 0, .slice none 0 0] := by
  have h0 := Blk.new (((w).alloc (.cells #[.string ⟨nm.toArray⟩, .int .i64 W, .int .i64 H, .int .i64 reach, .int .i64 dark, .slice AL la.length ac, .slice FL lf.length fc, .slice RL lr.length rc] 75)).alloc (.cells #[.string ⟨fnm.toArray⟩, .int .i64 ht, .int .i64 gap, .int .i64 sp, .slice (some adl) ls.length lc] 29)) 24 #[.int .i64 0, .int .i64 0, .slice none 0 0]
  simp only [World.size_alloc] at h0
  exact h0
 have sz1 : w1.heap.size = w.heap.size + 1 + 1 + 1 := by simp [w1]
 unfold Frm.val at hck hcv hpp hfa
 have HF := Lib.hid (hF.bl w1b); have HL := Lib.hid (hL.bl w1b); have HLs := Lib.hid (hLs.bl w1b); have HV := Lib.hid (hv.bl w1b); have HSp := Lib.hid (hSp.bl w1b)
 have Hck := Lib.hid (hck w1 (hF.bl w1b) (hN.bl w1b) (hC.bl w1b)); have Hcv := Lib.hid hcv; have Hpp := Lib.hid hpp; have Hfa := Lib.hid hfa; have HT := Lib.hid hT; have HFR := Lib.hid hFR; have Hs0 := Lib.hid hs0
 have Hfc := Lib.hid (check_any fnm ht gap sp (some adl) lc ls)
 have Hfe := Lib.hid hfe
 have k1 := w11.all8
 have k2 := w12.all5
 have HW1b := Lib.hid w1b
 unfold Frm.val
 clear hF hL hLs hv hSp hck hcv hpp hfa hT hFR hs0 hN hC hf hfit w1b hS hfe
 go_enter Tryz.func26, Tryz.ntmps26
 go_upto_region 1 with fail
 rw [show ((w.alloc (.cells #[.string ⟨nm.toArray⟩, .int .i64 W, .int .i64 H, .int .i64 reach, .int .i64 dark, .slice AL la.length ac, .slice FL lf.length fc, .slice RL lr.length rc] 75)).alloc (.cells #[.string ⟨fnm.toArray⟩, .int .i64 ht, .int .i64 gap, .int .i64 sp, .slice (some adl) ls.length lc] 29)).alloc (.cells #[.int .i64 0, .int .i64 0, .slice none 0 0] 24) = w1 from rfl]
 clear_value w1
 go_upto_region 4 with (go_at_call 63; refine Hck.out.mono ?_; rintro e w2 ⟨rfl, hb2⟩)
 have Hb2 := Lib.hid hb2
 have k2 := (w12.bl hb2).all5
 clear hb2 k1
 have hfck := Hfc.out w2 (HLs.out.bl Hb2.out) hfnm hlsn
 rw [Hfe.out] at hfck
 have Hfck := Lib.hid hfck
 clear hfck
 go_upto_region 7 with (go_at_call 33; refine Hfck.out.mono ?_; rintro e w3 ⟨rfl, hb3⟩)
 have Hb3 := Lib.hid (Hb2.out.trans hb3)
 have k1 := (w11.bl Hb3.out).all8
 clear hb3 k2
 go_upto_region 8 with (go_at_call 64; refine (Hpp.out _ (HF.out.bl Hb3.out)).mono ?_; rintro e w4 ⟨v4, rfl, ⟨g0, rfl, hg0, hgl0, hgn0⟩, hb4⟩)
 obtain ⟨p, hp⟩ : ∃ p, p = w4.heap.size := ⟨_, rfl⟩
 obtain ⟨w5, hw5⟩ : ∃ x, x = w4.alloc (.cells #[.int .i64 W, .int .i64 H, .slice (some ⟨g0, 0, none⟩) (W * H) (W * H)] 24) := ⟨_, rfl⟩
 have b5 : Blk w5 p 24 #[.int .i64 W, .int .i64 H, .slice (some ⟨g0, 0, none⟩) (W * H) (W * H)] := by rw [hw5, hp]; exact Blk.new _ _ _
 have hb5 : Bl w4 w5 := by rw [hw5]; exact (Bl.refl _).alloc _
 rw [← hw5, ← hp]
 have hg5 := hg0.bl hb5
 have hp2 := Lib.hid hp
 clear hw5 hp
 have hmm := @run_makeMap Tryz.prog
 go_upto_region 9 with fail
 obtain ⟨gk, hgk⟩ : ∃ p, p = w5.heap.size := ⟨_, rfl⟩
 obtain ⟨w6, hw6⟩ : ∃ x, x = w5.alloc (.map #[] 0) := ⟨_, rfl⟩
 have hm6 : MapAt w6 gk [] := by rw [hw6, hgk]; exact MapAt.new w5
 have hb6 : Bl w5 w6 := by rw [hw6]; exact (Bl.refl _).alloc _
 rw [← hw6, ← hgk]
 have hpl := b5.lt
 have H0 := Lib.hid (show Bl w3 w6 ∧ MapAt w6 gk [] ∧ Blk w6 p 24 #[.int .i64 W, .int .i64 H, .slice (some ⟨g0, 0, none⟩) (W * H) (W * H)] ∧ Blk w6 g0 4 ((paperTo W H la la.length).map Value.bool).toArray ∧ (paperTo W H la la.length).length = W * H ∧ w3.heap.size ≤ g0 ∧ g0 ≠ p ∧ g0 ≠ gk from
  ⟨hb4.trans (hb5.trans hb6), hm6, b5.bl hb6, hg5.bl hb6, hgl0, hgn0, by have := hg0.lt; have := hp2.out; omega, by have := hg5.lt; omega⟩)
 have hpk : w3.heap.size ≤ p ∧ w3.heap.size ≤ gk ∧ p ≠ gk := by
  have := hb4.le
  have := hp2.out
  exact ⟨by omega, by have := hb5.le; omega, by omega⟩
 have Hpk := Lib.hid hpk
 clear hmm hw6 hgk hm6 hb6 hb5 b5 hg5 hg0 hgl0 hgn0 hb4 hpl k1 hpk
 go_wp2_with fail
 go_loopw [39] (fun u wr => ∃ (i g : Nat) (pg : List Bool), i ≤ l.length ∧ u = .int .i64 i ∧ Bl w3 wr ∧ MapAt wr gk ((l.take i).map Vlu.field) ∧ Blk wr p 24 #[.int .i64 W, .int .i64 H, .slice (some ⟨g, 0, none⟩) (W * H) (W * H)] ∧ Blk wr g 4 (pg.map Value.bool).toArray ∧ pg.length = W * H ∧ (w3.heap.size ≤ g ∧ g ≠ p ∧ g ≠ gk) ∧ Hid (fillR ls ht gap sp W H lf ((l.take i).map Vlu.field) (l.drop i) pg = FR)) (fun u _ => l.length - (RowKit.intOf u).toNat)
 case atStart => exact ⟨0, g0, _, Nat.zero_le _, rfl, H0.out.1, H0.out.2.1, H0.out.2.2.1, H0.out.2.2.2.1, H0.out.2.2.2.2.1, H0.out.2.2.2.2.2, Lib.hid HFR.out.symm⟩
 case round =>
  obtain ⟨i, g, pg, hi, rfl, hbr, hmk, hbp, hbg, hpgl, hgn, hes⟩ := hrel
  have k1 := (w11.bl (Hb3.out.trans hbr)).all8
  by_cases hlt : i < l.length
  · have hg : l[i]? = some l[i] := List.getElem?_eq_getElem hlt
    obtain ⟨v, hv⟩ : ∃ x, x = l[i] := ⟨_, rfl⟩
    rw [← hv] at hg
    obtain ⟨tw, htw⟩ : ∃ b, b = decide (v.field ∈ (l.take i).map Vlu.field) := ⟨_, rfl⟩
    obtain ⟨VE, hVE⟩ : ∃ e, e = vluErrS lf tw v := ⟨_, rfl⟩
    obtain ⟨FV, hFV⟩ : ∃ e, e = fillV ls ht gap sp W H lf tw v pg := ⟨_, rfl⟩
    have hst := hes.out
    rw [fillR_from hg, ← htw, ← hFV] at hst
    obtain ⟨ad, eA, j1, j2, j3, j4⟩ := ((HL.out.bl (Hb3.out.trans hbr))).at_ hg
    subst eA
    have Hst := Lib.hid hst; have HVE := Lib.hid hVE; have HFV := Lib.hid hFV; have Hbr := Lib.hid hbr; have Hmk := Lib.hid hmk; have HG := Lib.hid hg; have Hbp := Lib.hid hbp; have Hbg := Lib.hid hbg; have Hgn := Lib.hid hgn; have Hpgl := Lib.hid hpgl; have Htw := Lib.hid htw
    clear hg hv hes hVE hst hbr hmk htw hFV hbp hbg hgn hpgl
    go_upto_region 12 with fail
    obtain ⟨w7, hw7⟩ : ∃ x, x = wr.alloc (.cells #[.string ⟨v.field.toArray⟩, .string ⟨v.text.toArray⟩, .slice v.M v.marks.length v.mc, .int .i64 v.sure] 132) := ⟨_, rfl⟩
    have b7 : Blk w7 wr.heap.size 132 #[.string ⟨v.field.toArray⟩, .string ⟨v.text.toArray⟩, .slice v.M v.marks.length v.mc, .int .i64 v.sure] := by rw [hw7]; exact Blk.new _ _ _
    have hb7 : Bl wr w7 := by rw [hw7]; exact (Bl.refl _).alloc _
    rw [← hw7]
    obtain ⟨tv, htv⟩ : ∃ t, t = wr.heap.size := ⟨_, rfl⟩
    rw [← htv] at b7 ⊢
    have B7 := Lib.hid b7; have Hb7 := Lib.hid (Hbr.out.trans hb7); have Hbr7 := Lib.hid hb7; have Htv := Lib.hid htv
    have k1 := (w11.bl (Hb3.out.trans Hb7.out)).all8
    have k2 := b7.all4
    have hVs := HL.out.2 v (List.mem_of_getElem? HG.out)
    have hcall := Hcv.out w3 v gk ((l.take i).map Vlu.field) w7 Hb7.out Hpk.out.2.1 (HF.out.bl Hb3.out) (hVs.1.bl Hb3.out) hVs.2.2.2 (Hmk.out.bl hb7)
    rw [← Htw.out, ← HVE.out] at hcall
    unfold Vlu.val at hcall
    have Hcall := Lib.hid hcall
    clear hw7 b7 hb7 j1 j2 j3 j4 hcall htv hVs
    go_upto_region 13 with (go_at_call 65; refine Hcall.out.mono ?_; rintro e w8 ⟨rfl, hp8⟩)
    obtain ⟨hp1, hp2, hp3⟩ := hp8
    have hle7 := Hbr7.out.le
    have Hp1 := Lib.hid hp1; have Hb8 := Lib.hid hp2; have Hk8 := Lib.hid hp3
    have hmlt : gk < wr.heap.size := by obtain ⟨es, ck, h1, -, -⟩ := Hmk.out; exact (Array.getElem?_eq_some_iff.1 h1).1
    have b8 : Blk w8 tv 132 #[.string ⟨v.field.toArray⟩, .string ⟨v.text.toArray⟩, .slice v.M v.marks.length v.mc, .int .i64 v.sure] := (Hk8.out _ B7.out.lt (by have := Htv.out; omega)).trans B7.out
    have p8 : Blk w8 p 24 #[.int .i64 W, .int .i64 H, .slice (some ⟨g, 0, none⟩) (W * H) (W * H)] := (Hk8.out _ (by have := Hbp.out.lt; omega) Hpk.out.2.2).trans (Hbp.out.bl Hbr7.out)
    have g8 : Blk w8 g 4 (pg.map Value.bool).toArray := (Hk8.out _ (by have := Hbg.out.lt; omega) Hgn.out.2.2).trans (Hbg.out.bl Hbr7.out)
    have Hb1 := Lib.hid (Hb3.out.trans Hb8.out)
    have k1 := (w11.bl Hb1.out).all8
    have k2 := b8.all4
    have B8 := Lib.hid b8; have P8 := Lib.hid p8; have G8 := Lib.hid g8
    clear hp1 hp2 hp3 hmlt b8 p8 g8
    by_cases hz : VE ≠ 0
    · have hq : (VE != 0) = true := by simp [hz]
      have HX := Lib.hid (show FR.1 = VE ∧ VE ≠ 0 by
       have h := Hst.out
       have h1 : FV.1 = VE := by rw [HFV.out, HVE.out]; exact fillV_err (by rw [← HVE.out]; exact hz)
       rw [if_neg (by rw [h1]; exact hz)] at h
       exact ⟨by rw [← h]; exact h1, hz⟩)
      have B3 := Lib.hid (w13.bl Hb1.out)
      have k3 := B3.out.all3
      clear hz
      go_wp2_with fail
      obtain ⟨wS, hwS⟩ : ∃ wzz, wzz = ((w8.setCell ⟨w.heap.size + 1 + 1, 0, none⟩ (.int .i64 0)).setCell ⟨w.heap.size + 1 + 1, 1, none⟩ (.int .i64 0)).setCell ⟨w.heap.size + 1 + 1, 2, none⟩ (.slice none 0 0) := ⟨_, rfl⟩
      have bS : Blk wS (w.heap.size + 1 + 1) 24 #[.int .i64 0, .int .i64 0, .slice none 0 0] := by rw [hwS]; exact ((B3.out.set_ 0 _).set_ 1 _).set_ 2 _
      have hS : Bl w wS := by rw [hwS]; exact (((HW1b.out.trans Hb1.out).setCell (by show _ ≤ _ + 1 + 1; omega) _).setCell (by show _ ≤ _ + 1 + 1; omega) _).setCell (by show _ ≤ _ + 1 + 1; omega) _
      rw [← hwS]
      have kF := bS.all3
      refine bodyPost_ret (v := .tuple #[.agg #[.int .i64 0, .int .i64 0, .slice none 0 0], .int .i64 VE]) (by simp [results, Tryz.results26, go_sem, kF]) rfl ⟨⟨0, 0, none, 0, 0, by rw [HX.out.1], Res.zero _ _ _ _ _ (by rw [HX.out.1]; exact HX.out.2)⟩, hS⟩
    have hz0 : VE = 0 := Classical.not_not.1 hz
    have hq : (VE != 0) = false := by simp [hz0]
    have hmk8 := Hp1.out hz0
    obtain ⟨x, hx, hww, hmr, -⟩ := vluErrS_some (HVE.out.symm.trans hz0)
    have Hx := Lib.hid hx; have Hww := Lib.hid hww; have Hmr := Lib.hid hmr; have Hmk8 := Lib.hid hmk8; have Hz0 := Lib.hid (HVE.out.symm.trans hz0)
    clear hx hww hmr hmk8 hz hz0
    have hfd := fun wx hF => Hfa.out v.field wx hF
    have Hfd := Lib.hid hfd
    clear hfd
    have hw8 : w8.heap.size ≤ w8.heap.size := Nat.le_refl _
    go_upto_region 15 with fail
    go_cut [15] from 51 to 59 (fun s wc => ∃ q, s = .pointer (some ⟨q, 0, none⟩) ∧ Blk wc q 136 #[.string ⟨x.name.toArray⟩, .int .i64 x.kind, .int .i64 x.box.X, .int .i64 x.box.Y, .int .i64 x.box.W, .int .i64 x.box.H, .slice x.M x.marks.length x.mc, .int .i64 x.most, .bool x.needed] ∧ w8.heap.size ≤ q ∧ Bl w8 wc)
    case first =>
     refine wp_region_tree (Bl w8) [(true, 0), (true, 1), (true, 2), (true, 3), (true, 4)] (.one 5 [(true, 6), (true, 7)] (.one 8 [] (.one 9 [] .none .none) .none) (.one 8 [] (.one 5 [(true, 6), (true, 7)] (.one 9 [] .none .none) .none) .none)) (by kernel_rfl) (by kernel_rfl) (by kernel_rfl) (by kernel_rfl) (Bl.drew (Bl.refl w8)) ?_
     obtain ⟨wxd, hwxd⟩ : ∃ wzz, wzz = (w8).drew := ⟨_, rfl⟩
     have HBD : Bl w8 wxd := by rw [hwxd]; exact Bl.drew (Bl.refl w8)
     rw [← hwxd]
     clear hwxd
     iterate 5
      apply FlowS.calm2 _ _ rfl rfl
      · intro w' hb' K' hK'
        obtain ⟨hc', hf'⟩ := hb'.rule
        go_simp
        try go_ints
        exact hK'
      · intro K' hK'
        simp only [sqA]
        exact hK'
     refine Tree.fork ?_
     refine Tree.part rfl ?_ ?_
     · skip
       go_wp2_with fail
       refine (Hfd.out _ (HF.out.bl (Hb1.out.trans HBD))).mono ?_
       rintro e wx5 ⟨ix, rfl, hix, bb5⟩
       rcases firstG_fld hix with ⟨h0, hk⟩ | ⟨j, x', rfl, hl, hk⟩
       · rw [Hx.out] at hk; cases hk
       obtain rfl : x = x' := Option.some.inj (Hx.out.symm.trans hk)
       obtain ⟨adF, eF, f1, f2, f3, f4, f5, f6, f7, f8, f9⟩ := FldsAt.at_ (HF.out.flds.bl Hb1.out) hl
       simp only at eF
       subst eF
       have hjl := (List.getElem?_eq_some_iff.1 hl).1
       have hln : lf.length ≤ 9223372036854775807 := HF.out.fn.2
       clear hix hk hl
       have HB5 : Bl w8 wx5 := (HBD).trans bb5
       go_wp2_with fail
       refine ⟨HB5, ?_⟩
       iterate 2
        apply FlowS.calm2 _ _ rfl rfl
        · intro w' hb' K' hK'
          obtain ⟨hc', hf'⟩ := hb'.rule
          go_simp
          try go_ints
          exact hK'
        · intro K' hK'
          simp only [sqA]
          exact hK'
       refine Tree.fork ?_
       refine Tree.part rfl ?_ ?_
       · skip
         go_wp2_with fail
         obtain ⟨wx8, hwx8⟩ : ∃ wzz, wzz = (wx5).alloc (.cells #[.string ⟨#[]⟩, .int .i64 0, .int .i64 0, .int .i64 0, .int .i64 0, .int .i64 0, .slice none 0 0, .int .i64 0, .bool false] 136) := ⟨_, rfl⟩
         have bk8 : Blk wx8 (wx5).heap.size 136 #[.string ⟨#[]⟩, .int .i64 0, .int .i64 0, .int .i64 0, .int .i64 0, .int .i64 0, .slice none 0 0, .int .i64 0, .bool false] := by rw [hwx8]; exact Blk.new _ _ _
         have bb8 : Bl wx5 wx8 := by rw [hwx8]; exact (Bl.refl _).alloc _
         rw [← hwx8]
         clear hwx8
         have HB8 : Bl w8 wx8 := (HB5).trans bb8
         refine ⟨HB8, ?_⟩
         refine Tree.fork ?_
         refine Tree.last rfl ?_ ?_
         · skip
           have kst := (bk8).all9
           go_wp2_with fail
           obtain ⟨wx9, hwx9⟩ : ∃ wzz, wzz = (((((((((wx8.setCell ⟨wx5.heap.size, 0, none⟩ (.string ⟨x.name.toArray⟩)).setCell ⟨wx5.heap.size, 1, none⟩ (.int .i64 x.kind)).setCell ⟨wx5.heap.size, 2, none⟩ (.int .i64 x.box.X)).setCell ⟨wx5.heap.size, 3, none⟩ (.int .i64 x.box.Y)).setCell ⟨wx5.heap.size, 4, none⟩ (.int .i64 x.box.W)).setCell ⟨wx5.heap.size, 5, none⟩ (.int .i64 x.box.H)).setCell ⟨wx5.heap.size, 6, none⟩ (.slice x.M x.marks.length x.mc)).setCell ⟨wx5.heap.size, 7, none⟩ (.int .i64 x.most)).setCell ⟨wx5.heap.size, 8, none⟩ (.bool x.needed)) := ⟨_, rfl⟩
           rw [← hwx9]
           have bk8_9 : Blk wx9 wx5.heap.size 136 #[.string ⟨x.name.toArray⟩, .int .i64 x.kind, .int .i64 x.box.X, .int .i64 x.box.Y, .int .i64 x.box.W, .int .i64 x.box.H, .slice x.M x.marks.length x.mc, .int .i64 x.most, .bool x.needed] := by rw [hwx9]; have h9 := ((((((((((bk8).set_ 0 (.string ⟨x.name.toArray⟩)).set_ 1 (.int .i64 x.kind)).set_ 2 (.int .i64 x.box.X)).set_ 3 (.int .i64 x.box.Y)).set_ 4 (.int .i64 x.box.W)).set_ 5 (.int .i64 x.box.H)).set_ 6 (.slice x.M x.marks.length x.mc)).set_ 7 (.int .i64 x.most)).set_ 8 (.bool x.needed)); simp only [List.setIfInBounds_toArray, List.set_cons_zero, List.set_cons_succ] at h9; exact h9
           have HB9 : Bl w8 wx9 := by rw [hwx9]; exact ((((((((((HB8).setCell (by exact HB5.le) _).setCell (by exact HB5.le) _).setCell (by exact HB5.le) _).setCell (by exact HB5.le) _).setCell (by exact HB5.le) _).setCell (by exact HB5.le) _).setCell (by exact HB5.le) _).setCell (by exact HB5.le) _).setCell (by exact HB5.le) _)
           clear kst hwx9
           refine ⟨HB9, ?_⟩
           refine FlowS.done ?_
           go_wp2_with fail
           go_meet
           case rel => exact ⟨_, rfl, bk8_9, HB5.le, HB9⟩
         exact Tree.nil
       exact Tree.nil
     refine Tree.part rfl ?_ ?_
     · skip
       go_wp2_with fail
       obtain ⟨wx8, hwx8⟩ : ∃ wzz, wzz = (wxd).alloc (.cells #[.string ⟨#[]⟩, .int .i64 0, .int .i64 0, .int .i64 0, .int .i64 0, .int .i64 0, .slice none 0 0, .int .i64 0, .bool false] 136) := ⟨_, rfl⟩
       have bk8 : Blk wx8 (wxd).heap.size 136 #[.string ⟨#[]⟩, .int .i64 0, .int .i64 0, .int .i64 0, .int .i64 0, .int .i64 0, .slice none 0 0, .int .i64 0, .bool false] := by rw [hwx8]; exact Blk.new _ _ _
       have bb8 : Bl wxd wx8 := by rw [hwx8]; exact (Bl.refl _).alloc _
       rw [← hwx8]
       clear hwx8
       have HB8 : Bl w8 wx8 := (HBD).trans bb8
       refine ⟨HB8, ?_⟩
       refine Tree.fork ?_
       refine Tree.part rfl ?_ ?_
       · skip
         go_wp2_with fail
         refine (Hfd.out _ (HF.out.bl (Hb1.out.trans HB8))).mono ?_
         rintro e wx5 ⟨ix, rfl, hix, bb5⟩
         rcases firstG_fld hix with ⟨h0, hk⟩ | ⟨j, x', rfl, hl, hk⟩
         · rw [Hx.out] at hk; cases hk
         obtain rfl : x = x' := Option.some.inj (Hx.out.symm.trans hk)
         obtain ⟨adF, eF, f1, f2, f3, f4, f5, f6, f7, f8, f9⟩ := FldsAt.at_ (HF.out.flds.bl Hb1.out) hl
         simp only at eF
         subst eF
         have hjl := (List.getElem?_eq_some_iff.1 hl).1
         have hln : lf.length ≤ 9223372036854775807 := HF.out.fn.2
         clear hix hk hl
         have HB5 : Bl w8 wx5 := (HB8).trans bb5
         have bk8_5 := (bk8).bl bb5
         go_wp2_with fail
         refine ⟨HB5, ?_⟩
         iterate 2
          apply FlowS.calm2 _ _ rfl rfl
          · intro w' hb' K' hK'
            obtain ⟨hc', hf'⟩ := hb'.rule
            go_simp
            try go_ints
            exact hK'
          · intro K' hK'
            simp only [sqA]
            exact hK'
         refine Tree.fork ?_
         refine Tree.last rfl ?_ ?_
         · skip
           have kst := (bk8_5).all9
           go_wp2_with fail
           obtain ⟨wx9, hwx9⟩ : ∃ wzz, wzz = (((((((((wx5.setCell ⟨wxd.heap.size, 0, none⟩ (.string ⟨x.name.toArray⟩)).setCell ⟨wxd.heap.size, 1, none⟩ (.int .i64 x.kind)).setCell ⟨wxd.heap.size, 2, none⟩ (.int .i64 x.box.X)).setCell ⟨wxd.heap.size, 3, none⟩ (.int .i64 x.box.Y)).setCell ⟨wxd.heap.size, 4, none⟩ (.int .i64 x.box.W)).setCell ⟨wxd.heap.size, 5, none⟩ (.int .i64 x.box.H)).setCell ⟨wxd.heap.size, 6, none⟩ (.slice x.M x.marks.length x.mc)).setCell ⟨wxd.heap.size, 7, none⟩ (.int .i64 x.most)).setCell ⟨wxd.heap.size, 8, none⟩ (.bool x.needed)) := ⟨_, rfl⟩
           rw [← hwx9]
           have bk8_9 : Blk wx9 wxd.heap.size 136 #[.string ⟨x.name.toArray⟩, .int .i64 x.kind, .int .i64 x.box.X, .int .i64 x.box.Y, .int .i64 x.box.W, .int .i64 x.box.H, .slice x.M x.marks.length x.mc, .int .i64 x.most, .bool x.needed] := by rw [hwx9]; have h9 := ((((((((((bk8_5).set_ 0 (.string ⟨x.name.toArray⟩)).set_ 1 (.int .i64 x.kind)).set_ 2 (.int .i64 x.box.X)).set_ 3 (.int .i64 x.box.Y)).set_ 4 (.int .i64 x.box.W)).set_ 5 (.int .i64 x.box.H)).set_ 6 (.slice x.M x.marks.length x.mc)).set_ 7 (.int .i64 x.most)).set_ 8 (.bool x.needed)); simp only [List.setIfInBounds_toArray, List.set_cons_zero, List.set_cons_succ] at h9; exact h9
           have HB9 : Bl w8 wx9 := by rw [hwx9]; exact ((((((((((HB5).setCell (by exact HBD.le) _).setCell (by exact HBD.le) _).setCell (by exact HBD.le) _).setCell (by exact HBD.le) _).setCell (by exact HBD.le) _).setCell (by exact HBD.le) _).setCell (by exact HBD.le) _).setCell (by exact HBD.le) _).setCell (by exact HBD.le) _)
           clear kst hwx9
           refine ⟨HB9, ?_⟩
           refine FlowS.done ?_
           go_wp2_with fail
           go_meet
           case rel => exact ⟨_, rfl, bk8_9, HBD.le, HB9⟩
         exact Tree.nil
       exact Tree.nil
     exact Tree.nil
    case rest =>
    rename World => w9
    obtain ⟨q, rfl, bq, hqn, hb9⟩ := hcut
    have hxm : x ∈ lf := List.mem_of_find?_eq_some Hx.out
    obtain ⟨hxmk, hxbox, hx20, hxk⟩ := Hflds.out x hxm
    have Hxmk := Lib.hid hxmk; have Hxbox := Lib.hid hxbox
    have HMx := Lib.hid (HF.out.flds.2 x hxm).1
    have B9 := Lib.hid (B8.out.bl hb9); have P9 := Lib.hid (P8.out.bl hb9); have G9 := Lib.hid (G8.out.bl hb9); have BQ := Lib.hid bq; have Hb9 := Lib.hid (Hb8.out.trans hb9); have Hmk9 := Lib.hid (Hmk8.out.bl hb9)
    have hne9 : tv ≠ g ∧ q ≠ g ∧ p ≠ g ∧ gk ≠ g := ⟨by have := Hbg.out.lt; have := Htv.out; omega, by have := G8.out.lt; omega, fun e => Hgn.out.2.1 e.symm, fun e => Hgn.out.2.2 e.symm⟩
    have Hne9 := Lib.hid hne9
    have HVs := Lib.hid (HL.out.2 v (List.mem_of_getElem? HG.out))
    obtain ⟨PG9, hPG9⟩ : ∃ f, f = marksTo W H x v.marks pg := ⟨_, rfl⟩
    have HPGl := Lib.hid (show ∀ j, (PG9 j).length = W * H by rw [hPG9]; exact marksTo_len Hpgl.out)
    have HPGs := Lib.hid (show ∀ (j n : Nat) (b : Bx), v.marks[j]? = some (n : Int) → x.marks[n]? = some b → PG9 (j + 1) = markB W H (PG9 j) b by rw [hPG9]; exact fun j n b h1 h2 => marksTo_succ h1 h2)
    have HPG9 := Lib.hid hPG9
    have G9' := Lib.hid (show Blk w9 g 4 ((PG9 0).map Value.bool).toArray by rw [hPG9]; exact G9.out)
    have k2 := B9.out.all4
    have hvm : v.marks.length ≤ 9223372036854775807 := HVs.out.2.2.2
    clear bq hb9 hxm hxmk hxbox hPG9 hne9 k1
    go_wp2_with fail
    go_loopw [62] (fun u wy => ∃ jj : Nat, jj ≤ v.marks.length ∧ u = .int .i64 jj ∧ Bl w3 wy ∧ Hid (∀ k, k < w9.heap.size → k ≠ g → wy.heap[k]? = w9.heap[k]?) ∧ Blk wy g 4 ((PG9 jj).map Value.bool).toArray ∧ w9.heap.size ≤ wy.heap.size) (fun u _ => v.marks.length - (RowKit.intOf u).toNat)
    case atStart => exact ⟨0, Nat.zero_le _, rfl, Hb9.out, Lib.hid (fun _ _ _ => rfl), G9'.out, Nat.le_refl _⟩
    case round =>
     clear k2
     rename World => wy
     obtain ⟨jj, hjj, rfl, hby, hky, hgy, hsy⟩ := hrel
     have BY := Lib.hid (show Blk wy tv 132 #[.string ⟨v.field.toArray⟩, .string ⟨v.text.toArray⟩, .slice v.M v.marks.length v.mc, .int .i64 v.sure] from (hky.out _ B9.out.lt Hne9.out.1).trans B9.out)
     have QY := Lib.hid (show Blk wy q 136 #[.string ⟨x.name.toArray⟩, .int .i64 x.kind, .int .i64 x.box.X, .int .i64 x.box.Y, .int .i64 x.box.W, .int .i64 x.box.H, .slice x.M x.marks.length x.mc, .int .i64 x.most, .bool x.needed] from (hky.out _ BQ.out.lt Hne9.out.2.1).trans BQ.out)
     have PY := Lib.hid (show Blk wy p 24 #[.int .i64 W, .int .i64 H, .slice (some ⟨g, 0, none⟩) (W * H) (W * H)] from (hky.out _ P9.out.lt Hne9.out.2.2.1).trans P9.out)
     have MY := Lib.hid (show MapAt wy gk ((l.take i).map Vlu.field ++ [v.field]) from Hmk9.out.same (hky.out _ (by obtain ⟨es, ck, h1, -, -⟩ := Hmk9.out; exact (Array.getElem?_eq_some_iff.1 h1).1) Hne9.out.2.2.2))
     have k2 := BY.out.all4
     have k3 := QY.out.all9
     have Hby := Lib.hid hby; have Hky := Lib.hid hky.out; have Hgy := Lib.hid hgy
     by_cases hjlt : jj < v.marks.length
     · have hgm : v.marks[jj]? = some v.marks[jj] := List.getElem?_eq_getElem hjlt
       obtain ⟨m0, hm0⟩ : ∃ z, z = v.marks[jj] := ⟨_, rfl⟩
       rw [← hm0] at hgm
       obtain ⟨hm1, hm2⟩ := Hmr.out m0 (List.mem_of_getElem? hgm)
       obtain ⟨n, rfl⟩ := Int.eq_ofNat_of_zero_le hm1
       have hnl : n < x.marks.length := by omega
       have hbx : x.marks[n]? = some x.marks[n] := List.getElem?_eq_getElem hnl
       obtain ⟨b, hb0⟩ : ∃ z, z = x.marks[n] := ⟨_, rfl⟩
       rw [← hb0] at hbx
       have hstp := HPGs.out jj n b hgm hbx
       obtain ⟨X, Y, bw, bh, rfl, hw1, hh1, hXW, hYH⟩ := Hxmk.out b (List.mem_of_getElem? hbx)
       obtain ⟨adM, u1, eM, hu, hc1⟩ := (HVs.out.1.bl (Hb3.out.trans hby)).at_ hjlt
       have hu1 : u1 = .int .i64 n := by
        rw [List.getElem?_map, hgm] at hu
        exact (Option.some.inj hu).symm
       subst hu1
       obtain ⟨adB, eB, c1, c2, c3, c4⟩ := BxsAt.at_ (HMx.out.bl (Hb3.out.trans hby)) hbx
       simp only at c1 c2 c3 c4
       have Hstp := Lib.hid hstp; have HeM := Lib.hid eM; have HeB := Lib.hid eB
       rw [eM] at k2
       rw [eB] at k3
       clear hgm hm0 hbx hb0 hstp hu hm1 hm2 eM eB hby hky hgy
       rw [HeM.out]
       go_upto_region 20 with fail
       obtain ⟨wz1, hwz1⟩ : ∃ z, z = wy.alloc (.cells #[.int .i64 X, .int .i64 Y, .int .i64 bw, .int .i64 bh] 26) := ⟨_, rfl⟩
       obtain ⟨bt, hbt⟩ : ∃ z, z = wy.heap.size := ⟨_, rfl⟩
       have bz : Blk wz1 bt 26 #[.int .i64 X, .int .i64 Y, .int .i64 bw, .int .i64 bh] := by rw [hwz1, hbt]; exact Blk.new _ _ _
       have hbz : Bl wy wz1 := by rw [hwz1]; exact (Bl.refl _).alloc _
       rw [← hwz1, ← hbt]
       have BZ := Lib.hid bz; have Hbz := Lib.hid (Hby.out.trans hbz); have PZ := Lib.hid (PY.out.bl hbz); have Hyz := Lib.hid hbz
       have hbtg : bt ≠ g := by have := Hgy.out.lt; omega
       have k4 := bz.all4
       obtain ⟨PJ, hPJ⟩ : ∃ z, z = PG9 jj := ⟨_, rfl⟩
       have hPJl : PJ.length = W * H := by rw [hPJ]; exact HPGl.out jj
       have GZ := Lib.hid (show Blk wz1 g 4 (tabB (W * H) fun k => PJ.getD k false || boxHit W X Y bw 0 k) by
        have h := Hgy.out.bl hbz
        rw [← hPJ, page_tab hPJl] at h
        rw [tabB_congr (g := fun k => PJ.getD k false) (fun k _ => by show (_ || false) = _; rw [Bool.or_false])]
        exact h)
       have hbwh : (bw : Int) * (bh : Int) = ((bw * bh : Nat) : Int) := by simp
       have hbwl : bw * bh ≤ 1048576 := Nat.le_trans (Nat.mul_le_mul (show bw ≤ W by omega) (show bh ≤ H by omega)) hWH
       obtain ⟨NB, hNB⟩ : ∃ z, z = bw * bh := ⟨_, rfl⟩
       rw [← hNB] at hbwh hbwl
       have HPJ := Lib.hid hPJ; have HNB := Lib.hid hNB
       clear hwz1 hbt bz hbz hPJ hNB k2 k3 c1 c2 c3 c4 hc1
       go_wp2_with fail
       go_loopw [76] (fun u wv => ∃ ii : Nat, ii ≤ NB ∧ u = .int .i64 ii ∧ Bl w3 wv ∧ Hid (∀ k, k < wz1.heap.size → k ≠ g → wv.heap[k]? = wz1.heap[k]?) ∧ Blk wv g 4 (tabB (W * H) fun k => PJ.getD k false || boxHit W X Y bw ii k) ∧ wz1.heap.size ≤ wv.heap.size) (fun u _ => NB - (RowKit.intOf u).toNat)
       case atStart => exact ⟨0, Nat.zero_le _, rfl, Hbz.out, Lib.hid (fun _ _ _ => rfl), GZ.out, Nat.le_refl _⟩
       case round =>
        clear k4
        rename World => wv
        obtain ⟨ii, hii, rfl, hbv, hkv, hgv, hsv⟩ := hrel
        have k4 := (show Blk wv bt 26 #[.int .i64 X, .int .i64 Y, .int .i64 bw, .int .i64 bh] from (hkv.out _ BZ.out.lt hbtg).trans BZ.out).all4
        have k5 := (show Blk wv p 24 #[.int .i64 W, .int .i64 H, .slice (some ⟨g, 0, none⟩) (W * H) (W * H)] from (hkv.out _ PZ.out.lt Hne9.out.2.2.1).trans PZ.out).all3
        have Hbv := Lib.hid hbv; have Hkv := Lib.hid hkv.out; have Hgv := Lib.hid hgv
        by_cases hilt : ii < NB
        · have mlt : ii % bw < bw := Nat.mod_lt _ (by omega)
          have dlt : ii / bw < bh := Nat.div_lt_of_lt_mul (by rw [← HNB.out]; exact hilt)
          obtain ⟨xi, hxi⟩ : ∃ n, n = ii % bw := ⟨_, rfl⟩
          obtain ⟨yi, hyi⟩ : ∃ n, n = ii / bw := ⟨_, rfl⟩
          have e1 : (ii : Int) % (bw : Int) = (xi : Int) := by rw [hxi]; simp
          have e2 : (ii : Int) / (bw : Int) = (yi : Int) := by rw [hyi]; simp
          rw [← hxi] at mlt
          rw [← hyi] at dlt
          obtain ⟨ya, hya⟩ : ∃ n, n = Y + yi := ⟨_, rfl⟩
          obtain ⟨M1, hM1⟩ : ∃ n, n = ya * W := ⟨_, rfl⟩
          obtain ⟨ix, hix⟩ : ∃ n, n = M1 + X + xi := ⟨_, rfl⟩
          have e3 : (Y : Int) + (yi : Int) = (ya : Int) := by omega
          have e4 : (ya : Int) * (W : Int) = (M1 : Int) := by rw [hM1]; simp
          have hix2 : ix < W * H := by
           have h1 : X + xi < W := by omega
           have h2 : ya < H := by omega
           have := place_lt h1 h2
           omega
          have hM1b : M1 ≤ 1048576 := by omega
          have e5 : (M1 : Int) + (X : Int) + (xi : Int) = (ix : Int) := by omega
          have ci := hgv.tabAtB hix2
          have fi := hgv.frozen ix
          have hixW : (ix : Int) < (W : Int) * (H : Int) := by have := Int.natCast_mul W H; omega
          have hw0 : ¬ (bw = 0) := by omega
          have Hset := Lib.hid (hgv.tabSetB (f' := fun k => PJ.getD k false || boxHit W X Y bw (ii + 1) k) ix true (fun k _ => by
           show (_ || (boxHit W X Y bw ii k || decide (k = (Y + ii / bw) * W + (X + ii % bw)))) = _
           rw [← hxi, ← hyi, ← hya, ← hM1]
           by_cases hk : k = ix
           · rw [if_pos hk, decide_eq_true (by omega), Bool.or_true, Bool.or_true]
           · rw [if_neg hk, decide_eq_false (by omega), Bool.or_false]))
          have Hgn1 := Lib.hid Hgn.out.1
          clear hbv hkv hgv hxi hyi hya hM1 hix hix2
          go_upto_region 23 with fail
          refine wp_region_flow [(true, 0), (true, 1), (true, 2), (true, 3), (true, 4), (true, 5), (true, 6), (true, 7), (true, 8), (true, 9), (true, 10), (true, 11), (true, 12), (true, 13), (true, 14), (true, 15), (true, 16), (true, 17), (true, 18), (true, 19), (true, 20), (false, 21)] (fun i => i == 21) (by kernel_rfl) (by kernel_rfl) (by kernel_rfl) (by kernel_rfl) ?_
          iterate 4
           apply Flow.calm2 _ _ rfl rfl
           · intro w' hb' K' hK'
             obtain ⟨hc', hf'⟩ := hb'.rule
             go_simp
             try go_ints
             exact hK'
           · intro K' hK'
             simp only [sqA]
             exact hK'
          iterate 1
           apply Flow.mv _ rfl
           · intro K' hK'
             simp only [sqA, Act.eval, arr_getD, List.getD_cons_zero, List.getD_cons_succ]
             exact hK'
          iterate 10
           apply Flow.calm2 _ _ rfl rfl
           · intro w' hb' K' hK'
             obtain ⟨hc', hf'⟩ := hb'.rule
             go_simp
             try go_ints
             exact hK'
           · intro K' hK'
             simp only [sqA]
             exact hK'
          iterate 1
           apply Flow.mv _ rfl
           · intro K' hK'
             simp only [sqA, Act.eval, arr_getD, List.getD_cons_zero, List.getD_cons_succ]
             exact hK'
          iterate 5
           apply Flow.calm2 _ _ rfl rfl
           · intro w' hb' K' hK'
             obtain ⟨hc', hf'⟩ := hb'.rule
             go_simp
             try go_ints
             exact hK'
           · intro K' hK'
             simp only [sqA]
             exact hK'
          refine Flow.tail _ rfl ?_
          go_wp2_with fail
          exact ⟨⟨ii + 1, hilt, by go_num, (Hbv.out.setCell Hgn1.out _).drew, Lib.hid (fun k hk hne => (Below.heap_setCell wv ⟨g, ix, none⟩ _ k hne).trans (Hkv.out k hk hne)), Hset.out.drew, by show _ ≤ (wv.setCell _ _).heap.size; rw [World.size_setCell]; exact hsv⟩, by simp [RowKit.intOf]; omega⟩
        · obtain rfl : ii = NB := by omega
          have hfin : Blk wv g 4 ((PG9 (jj + 1)).map Value.bool).toArray := by
           rw [Hstp.out, ← HPJ.out]
           have h := Hgv.out
           rw [HNB.out, mark_cells rfl hw1 hXW] at h
           exact h
          have Hfin := Lib.hid hfin
          have HKF := Lib.hid (show ∀ k, k < w9.heap.size → k ≠ g → wv.heap[k]? = w9.heap[k]? from fun k hk hne => (Hkv.out k (by have := Hyz.out.le; omega) hne).trans ((bl_block Hyz.out k (by omega)).trans (Hky.out k hk hne)))
          have hsz9 : w9.heap.size ≤ wv.heap.size := by have := Hyz.out.le; omega
          clear hfin hbv hkv hgv
          go_wp2_with fail
          exact ⟨⟨jj + 1, hjlt, by go_num, Hbv.out, HKF, Hfin.out, hsz9⟩, by simp [RowKit.intOf]; omega⟩
     · obtain rfl : jj = v.marks.length := by omega
       obtain ⟨te, hte⟩ : ∃ b, v.text.isEmpty = b := ⟨_, rfl⟩
       obtain ⟨PE, hPE⟩ : ∃ z, z = PG9 v.marks.length := ⟨_, rfl⟩
       have HPE := Lib.hid (show marksTo W H x v.marks pg v.marks.length = PE by rw [hPE, HPG9.out])
       have HPEl := Lib.hid (show PE.length = W * H by rw [hPE]; exact HPGl.out _)
       have HGE := Lib.hid (show Blk wy g 4 (PE.map Value.bool).toArray by rw [hPE]; exact Hgy.out)
       have MY2 := Lib.hid (show MapAt wy gk ((l.take (i + 1)).map Vlu.field) by rw [take_snoc HG.out, List.map_append]; exact MY.out)
       clear hPE hgy hby hky
       cases te with
       | true =>
        have hnil : v.text = [] := by simpa using hte
        have HX := Lib.hid (show fillR ls ht gap sp W H lf ((l.take (i + 1)).map Vlu.field) (l.drop (i + 1)) PE = FR by
         have h := Hst.out
         rw [HFV.out, fillV_none Hz0.out Hx.out hnil, HPE.out] at h
         exact (if_pos (show ((0 : Int), PE).1 = 0 from rfl)).symm.trans h)
        clear hnil
        go_wp2_with fail
        exact ⟨⟨i + 1, g, PE, hlt, by go_num, Hby.out, MY2.out, PY.out, HGE.out, HPEl.out, Hgn.out, HX⟩, by simp [RowKit.intOf]; omega⟩
       | false =>
        have hne : v.text ≠ [] := fun e => by rw [e] at hte; cases hte
        have hbox := Hxbox.out (text_marks Hww.out hne)
        obtain ⟨bh0, hbH, hbh, hbW, hbWH⟩ := box_size hbox (by omega) (by omega) hWH
        obtain ⟨E0, hE0⟩ : ∃ e, e = drawnE0 ls ht gap sp x v.text := ⟨_, rfl⟩
        obtain ⟨DW, hDW⟩ : ∃ e, e = drawnW ls gap sp x v.text := ⟨_, rfl⟩
        obtain ⟨DH, hDH⟩ : ∃ e, e = drawnH ht x := ⟨_, rfl⟩
        obtain ⟨DB, hDB⟩ : ∃ e, e = drawnB ls ht gap sp x v.text := ⟨_, rfl⟩
        obtain ⟨DE, hDE⟩ : ∃ e, e = drawnE ls ht gap sp x v.text := ⟨_, rfl⟩
        have HDE := Lib.hid (show DE = if E0 = 0 then whenI (decide (x.box.W < (DW : Int)) || decide (x.box.H < (DH : Int))) 15 else E0 by rw [hDE, hE0, hDW, hDH]; exact drawnE_eq (fun _ => hbH))
        have HDs := Lib.hid (fun (h : E0 = 0) => show sizeErr (DW : Int) (DH : Int) = 0 by rw [hDW, hDH]; exact drawn_size hbox (by omega) (by omega) hWH (hE0.symm.trans h))
        have HFVe := Lib.hid (show FV = if DE = 0 then (0, grid W H (pasteF PE DB W H DW DH x.box.X x.box.Y)) else (DE, []) by
         rw [HFV.out, fillV_text Hz0.out Hx.out hne, HPE.out, hDE, hDB, hDW, hDH])
        have hcall := drawn_any x v.text fnm ht gap sp adl lc ls wy (HLs.out.bl (Hb3.out.trans Hby.out)) hfnm hlsn Hfe.out (HT.out v (List.mem_of_getElem? HG.out)) (HV.out.bl (Hb3.out.trans Hby.out)) (HSp.out.bl (Hb3.out.trans Hby.out)) (fun _ => ⟨bh0, hbH, hbh, hbW, hbWH⟩)
        rw [← hE0, ← hDW, ← hDH, ← hDB] at hcall
        unfold Fld.val at hcall
        have Hcall2 := Lib.hid hcall
        have Hbox := Lib.hid hbox
        have k4 := (w12.bl (Hb3.out.trans Hby.out)).all5
        clear hne hbH hbWH hE0 hDW hDH hDB hDE hcall hbox
        go_upto_region 28 with (go_at_call 67; refine Hcall2.out.mono ?_; rintro e wd ⟨⟨a, b, R, m, d, rfl, hres⟩, hbd⟩)
        obtain ⟨wt, hwt⟩ : ∃ z, z = wd.alloc (.cells #[.int .i64 a, .int .i64 b, .slice R m d] 24) := ⟨_, rfl⟩
        have bt : Blk wt wd.heap.size 24 #[.int .i64 a, .int .i64 b, .slice R m d] := by rw [hwt]; exact Blk.new _ _ _
        have hbt : Bl wd wt := by rw [hwt]; exact (Bl.refl _).alloc _
        rw [← hwt]
        have hyt := hbd.trans hbt
        have Hbt := Lib.hid (Hby.out.trans hyt); have Hyt := Lib.hid hyt
        have QT := Lib.hid (QY.out.bl hyt); have PT := Lib.hid (PY.out.bl hyt); have GT := Lib.hid (HGE.out.bl hyt); have MT := Lib.hid (MY2.out.bl hyt); have BT := Lib.hid bt; have Hres := Lib.hid (hres.bl hbt)
        have k3 := QT.out.all9
        have k5 := bt.all3
        clear hwt bt hbt hbd hyt hres k2 k4
        obtain ⟨OV, hOV⟩ : ∃ b, b = (decide (x.box.W < (DW : Int)) || decide (x.box.H < (DH : Int))) := ⟨_, rfl⟩
        have HOV := Lib.hid hOV
        rw [← hOV] at HDE
        clear hOV
        go_cut [130] from 113 to 131 (fun s wc => s = .bool (decide (E0 = 0) && OV) ∧ wt = wc)
        case first =>
         by_cases h0 : E0 = 0
         · obtain ⟨R1, c1, eq1, hR1, hRn1⟩ := Hres.out.1 h0
           simp only [Value.agg.injEq, Array.mk.injEq, List.cons.injEq, Value.int.injEq, Value.slice.injEq, and_true, true_and] at eq1
           obtain ⟨rfl, rfl, rfl, rfl, rfl⟩ := eq1
           have hq : (E0 == 0) = true := by simp [h0]
           by_cases hA : x.box.W < (DW : Int)
           · have hOVt : OV = true := by rw [HOV.out, decide_eq_true hA]; rfl
             have HG2 := Lib.hid (show (decide (E0 = 0) && OV) = true by rw [hOVt, decide_eq_true h0]; rfl)
             clear h0 hOVt hR1 hRn1
             go_wp2_with fail
             go_meet
             case rel => exact ⟨by rw [HG2.out], rfl⟩
           · by_cases hB : x.box.H < (DH : Int)
             · have hOVt : OV = true := by rw [HOV.out, decide_eq_true hB, Bool.or_true]
               have HG2 := Lib.hid (show (decide (E0 = 0) && OV) = true by rw [hOVt, decide_eq_true h0]; rfl)
               clear h0 hOVt hR1 hRn1
               go_wp2_with fail
               go_meet
               case rel => exact ⟨by rw [HG2.out], rfl⟩
             · have hOVt : OV = false := by rw [HOV.out, decide_eq_false hA, decide_eq_false hB]; rfl
               have HG2 := Lib.hid (show (decide (E0 = 0) && OV) = false by rw [hOVt, Bool.and_false])
               clear h0 hOVt hR1 hRn1
               go_wp2_with fail
               go_meet
               case rel => exact ⟨by rw [HG2.out], rfl⟩
         · have hq : (E0 == 0) = false := by simp [h0]
           have HG2 := Lib.hid (show (decide (E0 = 0) && OV) = false by rw [decide_eq_false h0]; rfl)
           clear h0
           go_wp2_with fail
           go_meet
           case rel => exact ⟨by rw [HG2.out], rfl⟩
        case rest =>
        rename World => wt2
        obtain ⟨rfl, rfl⟩ := hcut
        have Hbw := Lib.hid (HW1b.out.trans (Hb3.out.trans Hbt.out))
        have B3 := Lib.hid (w13.bl (Hb3.out.trans Hbt.out))
        by_cases hov : (decide (E0 = 0) && OV) = true
        · have HX := Lib.hid (show FR.1 = 15 by
           simp only [Bool.and_eq_true, decide_eq_true_eq] at hov
           have hd : DE = 15 := by rw [HDE.out, if_pos hov.1, hov.2]; rfl
           have h := Hst.out
           rw [HFVe.out, hd, if_neg (show ¬ ((15 : Int) = 0) by decide), if_neg (show ¬ ((15 : Int), ([] : List Bool)).1 = 0 by decide)] at h
           rw [← h])
          have k3 := B3.out.all3
          rw [hov]
          clear hov
          go_upto_region 31 with fail
          go_cut [7] from 133 to 135 (fun s wc => s = .int .i64 15 ∧ wc = ((wt.setCell ⟨w.heap.size + 1 + 1, 0, none⟩ (.int .i64 0)).setCell ⟨w.heap.size + 1 + 1, 1, none⟩ (.int .i64 0)).setCell ⟨w.heap.size + 1 + 1, 2, none⟩ (.slice none 0 0))
          case first =>
           go_wp2_with fail
           go_meet
           case rel => exact ⟨rfl, rfl⟩
          case rest =>
          rename World => wS
          obtain ⟨rfl, hwS⟩ := hcut
          have bS : Blk wS (w.heap.size + 1 + 1) 24 #[.int .i64 0, .int .i64 0, .slice none 0 0] := by rw [hwS]; exact ((B3.out.set_ 0 _).set_ 1 _).set_ 2 _
          have hS : Bl w wS := by rw [hwS]; exact ((Hbw.out.setCell (by show _ ≤ _ + 1 + 1; omega) _).setCell (by show _ ≤ _ + 1 + 1; omega) _).setCell (by show _ ≤ _ + 1 + 1; omega) _
          have kF := bS.all3
          go_step
          go_step
          dsimp +zetaDelta only [Exit.inBlock, Exit.then]
          refine bodyPost_ret (v := .tuple #[.agg #[.int .i64 0, .int .i64 0, .slice none 0 0], .int .i64 15]) (by simp [results, Tryz.results26, go_sem, kF]) rfl (show DrawnRes w.heap.size FR.1 W H FR.2 (.returned (.tuple #[.agg #[.int .i64 0, .int .i64 0, .slice none 0 0], .int .i64 15])) wS ∧ Bl w wS from ⟨⟨0, 0, none, 0, 0, by rw [HX.out], Res.zero _ _ _ _ _ (by rw [HX.out]; decide)⟩, hS⟩)
        have HD2 := Lib.hid (show DE = E0 by
         rw [HDE.out]
         by_cases h0 : E0 = 0
         · have : OV = false := by
            rw [decide_eq_true h0, Bool.true_and] at hov
            simpa using hov
           rw [if_pos h0, this, h0]; rfl
         · rw [if_neg h0])
        have hov2 : (decide (E0 = 0) && OV) = false := by simpa using hov
        rw [hov2]
        clear hov hov2
        by_cases hz : E0 ≠ 0
        · have hq : (E0 != 0) = true := by simp [hz]
          have HX := Lib.hid (show FR.1 = E0 ∧ E0 ≠ 0 by
           have h := Hst.out
           rw [HFVe.out, HD2.out, if_neg hz, if_neg (show ¬ (E0, ([] : List Bool)).1 = 0 from hz)] at h
           exact ⟨by rw [← h], hz⟩)
          have k3 := B3.out.all3
          clear hz
          go_upto_region 31 with fail
          go_cut [7] from 133 to 135 (fun s wc => s = .int .i64 E0 ∧ wc = ((wt.setCell ⟨w.heap.size + 1 + 1, 0, none⟩ (.int .i64 0)).setCell ⟨w.heap.size + 1 + 1, 1, none⟩ (.int .i64 0)).setCell ⟨w.heap.size + 1 + 1, 2, none⟩ (.slice none 0 0))
          case first =>
           go_wp2_with fail
           go_meet
           case rel => exact ⟨rfl, rfl⟩
          case rest =>
          rename World => wS
          obtain ⟨rfl, hwS⟩ := hcut
          have bS : Blk wS (w.heap.size + 1 + 1) 24 #[.int .i64 0, .int .i64 0, .slice none 0 0] := by rw [hwS]; exact ((B3.out.set_ 0 _).set_ 1 _).set_ 2 _
          have hS : Bl w wS := by rw [hwS]; exact ((Hbw.out.setCell (by show _ ≤ _ + 1 + 1; omega) _).setCell (by show _ ≤ _ + 1 + 1; omega) _).setCell (by show _ ≤ _ + 1 + 1; omega) _
          have kF := bS.all3
          go_step
          go_step
          dsimp +zetaDelta only [Exit.inBlock, Exit.then]
          refine bodyPost_ret (v := .tuple #[.agg #[.int .i64 0, .int .i64 0, .slice none 0 0], .int .i64 E0]) (by simp [results, Tryz.results26, go_sem, kF]) rfl (show DrawnRes w.heap.size FR.1 W H FR.2 (.returned (.tuple #[.agg #[.int .i64 0, .int .i64 0, .slice none 0 0], .int .i64 E0])) wS ∧ Bl w wS from ⟨⟨0, 0, none, 0, 0, by rw [HX.out.1], Res.zero _ _ _ _ _ (by rw [HX.out.1]; exact HX.out.2)⟩, hS⟩)
        have hz0 : E0 = 0 := Classical.not_not.1 hz
        obtain ⟨R1, c1, eq1, hR1, hRn1⟩ := Hres.out.1 hz0
        simp only [Value.agg.injEq, Array.mk.injEq, List.cons.injEq, Value.int.injEq, Value.slice.injEq, and_true, true_and] at eq1
        obtain ⟨rfl, rfl, rfl, rfl, rfl⟩ := eq1
        have hDE0 : DE = 0 := HD2.out.trans hz0
        obtain ⟨PN, hPN⟩ : ∃ z, z = grid W H (pasteF PE DB W H DW DH x.box.X x.box.Y) := ⟨_, rfl⟩
        have HPNl := Lib.hid (show PN.length = W * H by rw [hPN]; exact grid_length _ _ _)
        have HX := Lib.hid (show fillR ls ht gap sp W H lf ((l.take (i + 1)).map Vlu.field) (l.drop (i + 1)) PN = FR by
         have h := Hst.out
         rw [HFVe.out, if_pos hDE0, ← hPN] at h
         exact (if_pos (show ((0 : Int), PN).1 = 0 from rfl)).symm.trans h)
        obtain ⟨bX, bY, bw, bh, ebx, bw1, bh1, bXW, bYH⟩ := Hbox.out.inW
        have hbX : x.box.X = (bX : Int) := by rw [ebx]
        have hbY : x.box.Y = (bY : Int) := by rw [ebx]
        have hcall := pasteB_any W H DW DH _ _ PE DB x.box.X x.box.Y wt ⟨some ⟨g, 0, none⟩, W * H, rfl, by have := GT.out.reads (W * H) 1 (by simp [HPEl.out]); simpa using this⟩ ⟨R, d, rfl, hR1⟩ Hs0.out (HDs.out hz0) (by omega) (by omega)
        rw [← hPN] at hcall
        have Hcall3 := Lib.hid hcall
        have k3 := QT.out.all9
        have k2 := PT.out.all3
        subst hz0
        clear hz hbX hbY ebx bw1 bh1 bXW bYH hcall hDE0 hPN hR1 hRn1
        go_upto_region 32 with fail
        have hfin : ∀ (w6 : World) (g6 : Nat), Bl wt w6 → wt.heap.size ≤ g6 → (w3.heap.size ≤ g6 ∧ g6 ≠ p ∧ g6 ≠ gk) ∧ (gk ≠ p ∧ w3.heap.size ≤ p ∧ g6 ≠ p) := fun w6 g6 hb6 hgn6 => by
         have hpt : p < wt.heap.size := PT.out.lt
         have h1 : gk < wt.heap.size := by
          obtain ⟨es, ck, h1, -, -⟩ := MT.out
          exact (Array.getElem?_eq_some_iff.1 h1).1
         have := Hbt.out.le
         exact ⟨⟨by omega, by omega, by omega⟩, fun e => Hpk.out.2.2 e.symm, Hpk.out.1, by omega⟩
        have Hfin := Lib.hid hfin
        clear hfin
        go_wp2_with (go_at_call 68; refine Hcall3.out.mono ?_; rintro e w6 ⟨v6, rfl, ⟨g6, rfl, hg6, hgl6, hgn6⟩, hb6⟩; have HP6 := Lib.hid (PT.out.bl hb6); have k2 := HP6.out.all3; have Hb6 := Lib.hid (Hbt.out.trans hb6); have HM6 := Lib.hid (MT.out.bl hb6); have HG6 := Lib.hid hg6; have Hgg := Lib.hid (Hfin.out w6 g6 hb6 hgn6).1; have Hpg := Lib.hid (Hfin.out w6 g6 hb6 hgn6).2; clear hg6 hgn6 hb6 hgl6 k3 k5)
        exact ⟨⟨i + 1, g6, PN, hlt, by go_num, ((Hb6.out.setCell Hpg.out.2.1 _).setCell Hpg.out.2.1 _).setCell Hpg.out.2.1 _, HM6.out.same (((Below.heap_setCell _ _ _ _ Hpg.out.1).trans (Below.heap_setCell _ _ _ _ Hpg.out.1)).trans (Below.heap_setCell _ _ _ _ Hpg.out.1)), ((HP6.out.set_ 0 _).set_ 1 _).set_ 2 _, ((HG6.out.far Hpg.out.2.2 _).far Hpg.out.2.2 _).far Hpg.out.2.2 _, HPNl.out, Hgg.out, HX⟩, by simp [RowKit.intOf]; omega⟩
  · obtain rfl : i = l.length := by omega
    have HX := Lib.hid (show FR = (0, pg) by
     have h := hes.out
     rw [List.drop_length] at h
     exact h.symm)
    have k2 := hbp.all3
    have B3 := Lib.hid (w13.bl (Hb3.out.trans hbr))
    have k3 := B3.out.all3
    have hbw := HW1b.out.trans (Hb3.out.trans hbr)
    have Hbw := Lib.hid hbw
    have HG := Lib.hid hbg; have HGn := Lib.hid hgn.1; have HPL := Lib.hid hpgl
    have hw3 := Hb3.out.le
    clear hbr hmk hbp hbg hpgl hgn hes hbw k1
    go_wp2_with fail
    obtain ⟨wS, hwS⟩ : ∃ x, x = ((wr.setCell ⟨w.heap.size + 1 + 1, 0, none⟩ (.int .i64 W)).setCell ⟨w.heap.size + 1 + 1, 1, none⟩ (.int .i64 H)).setCell ⟨w.heap.size + 1 + 1, 2, none⟩ (.slice (some ⟨g, 0, none⟩) (W * H) (W * H)) := ⟨_, rfl⟩
    have bS : Blk wS (w.heap.size + 1 + 1) 24 #[.int .i64 W, .int .i64 H, .slice (some ⟨g, 0, none⟩) (W * H) (W * H)] := by rw [hwS]; exact ((B3.out.set_ 0 _).set_ 1 _).set_ 2 _
    have hS : Bl w wS := by rw [hwS]; exact ((Hbw.out.setCell (by show _ ≤ _ + 1 + 1; omega) _).setCell (by show _ ≤ _ + 1 + 1; omega) _).setCell (by show _ ≤ _ + 1 + 1; omega) _
    have hgf : g ≠ w.heap.size + 1 + 1 := by have := HGn.out; omega
    have bG : Blk wS g 4 (pg.map Value.bool).toArray := by rw [hwS]; exact ((HG.out.far hgf _).far hgf _).far hgf _
    rw [← hwS]
    have kF := bS.all3
    have hwg : w.heap.size ≤ g := by have := HGn.out; omega
    refine bodyPost_ret (v := .tuple #[.agg #[.int .i64 W, .int .i64 H, .slice (some ⟨g, 0, none⟩) (W * H) (W * H)], .int .i64 0]) (by simp [results, Tryz.results26, go_sem, kF]) rfl ⟨⟨_, _, _, _, _, by rw [HX.out], Res.page (by rw [HX.out]) (by rw [HX.out]; have := bG.reads (W * H) 1 (by simp [HPL.out]); simpa using this) (fun ad h => by cases h; exact hwg)⟩, hS⟩
end Go.Proofs.YthobmednnocklaaGreatDoor


/-! The law FillsMatch answers true. -/
namespace Go.Proofs.YthobmednnocklaaGreatDoor
open Go.RowKit Go.Shelf

def wantFill (f : Frm) (nm : Bool) (ht gap sp : Int) (ls : List Ltr) : Int := if f.err = 0 then fontErr nm ht gap sp ls else f.err
theorem wantFill_first (f : Frm) (nm : Bool) (ht gap sp : Int) (ls : List Ltr) : firstNZ [f.err, fontErr nm ht gap sp ls] = wantFill f nm ht gap sp ls := by
 unfold wantFill
 by_cases h : f.err = 0
 · rw [if_pos h, h, firstNZ_0]
   by_cases h2 : fontErr nm ht gap sp ls = 0
   · rw [h2]; rfl
   · simp [firstNZ, h2]
 · rw [if_neg h]; simp [firstNZ, h]
set_option maxRecDepth 100000 in
set_option maxHeartbeats 1000000 in
theorem fills1_makes (p : Nat) (W H : Nat) (R : Option Addr) (rc : Nat) (cells : List Value) (w : World) (hp : Blk w p 24 #[.int .i64 W, .int .i64 H, .slice R (W * H) rc]) (hR : Reads w 1 R (W * H) cells) :
 MakesPage Tryz.prog 32 #[.pointer (some ⟨p, 0, none⟩)] w W H cells := by
 refine ⟨enters Tryz.func32 (by kernel_rfl) rfl, fun wx hx => ?_⟩
 have hb5 : Bl wx (wx.alloc (.cells #[.int .i64 0, .int .i64 0, .slice none 0 0] 24)) := (Bl.refl wx).alloc _
 have b5 := Blk.new wx 24 #[.int .i64 0, .int .i64 0, .slice none 0 0]
 have k1 := (hp.bl (hx.trans hb5)).all3
 have l1 := (hp.bl hx).lt
 have hR5 := hR.bl hx
 have kr3 := b5.all3
 have HR := Lib.hid hR5
 have HX5 := Lib.hid hb5
 have B5 := Lib.hid b5
 clear hp hR hx hb5 hR5 b5
 go_enter Tryz.func32, Tryz.ntmps32
 go_wp2_with fail
 obtain ⟨wS, hwS⟩ : ∃ wzz, wzz = wx.alloc (.cells #[.int .i64 W, .int .i64 H, .slice R (W * H) rc] 24) := ⟨_, rfl⟩
 have bS : Blk wS wx.heap.size 24 #[.int .i64 W, .int .i64 H, .slice R (W * H) rc] := by rw [hwS]; exact Blk.new _ _ _
 have hS : Bl wx wS := by rw [hwS]; exact (Bl.refl _).alloc _
 rw [← hwS]
 have kF := bS.all3
 refine bodyPost_ret (v := .agg #[.int .i64 W, .int .i64 H, .slice R (W * H) rc]) (by simp [results, Tryz.results32, go_sem, kF]) rfl ⟨_, rfl, ⟨R, rc, rfl, HR.out.bl hS⟩, hS⟩
set_option maxRecDepth 100000 in
set_option maxHeartbeats 8000000 in
theorem lawFills_any (f : Frm) (L : Option Addr) (c : Nat) (l : List Vlu) (fnm : List UInt8) (ht gap sp : Int) (A : Option Addr) (lc : Nat) (ls : List Ltr) (w : World) (hF : FrmAt w f) (hS : f.small 1048576) (hL : VlusAt w L l) (hln : l.length ≤ 9223372036854775807) (hlc : l.length ≤ c) (hT : ∀ v ∈ l, v.text.length ≤ 1048576)
 (hLs : LtrsAt w A ls) (hfnm : fnm.length ≤ 9223372036854775807) (hlsn : ls.length ≤ 9223372036854775807) (hlsc : ls.length ≤ lc) (hN : NumOk w) (hC : SplitOk w) (hv : SubOk w) (hSp : SpOk w) :
 Calls Tryz.prog 5 #[f.val, .slice L l.length c, .agg #[.string ⟨fnm.toArray⟩, .int .i64 ht, .int .i64 gap, .int .i64 sp, .slice A ls.length lc]] w fun e w' => e = .returned (.bool true) ∧ Bl w w' := by
 have hfe := fun wx hF hN hC => formError_any f wx hF hS hN hC
 have hge := fun wx hL => fontError_any fnm ht gap sp A lc ls wx hL hfnm hlsn hlsc
 have hwf := wantFill_first f (nameB fnm) ht gap sp ls
 have hli := fun (h0 : f.err = 0) wx => show Calls Tryz.prog 29 #[f.val] wx fun e w' => e = .returned (.bool (littleB f)) ∧ Bl wx w' by
  obtain ⟨W, H, r, hfit⟩ := fits_of h0
  exact little_any f W H r wx hfit
 have hmain : ∃ (E : Int) (W H : Nat) (BS : List Bool), (∀ wx, FrmAt wx f → VlusAt wx L l → LtrsAt wx A ls → NumOk wx → SplitOk wx → SubOk wx → SpOk wx → Calls Tryz.prog 26 #[f.val, .slice L l.length c, .agg #[.string ⟨fnm.toArray⟩, .int .i64 ht, .int .i64 gap, .int .i64 sp, .slice A ls.length lc]] wx fun e w' => DrawnRes wx.heap.size E W H BS e w' ∧ Bl wx w') ∧ W * H ≤ 1048576 ∧
  (wantFill f (nameB fnm) ht gap sp ls ≠ 0 → E = wantFill f (nameB fnm) ht gap sp ls) ∧ (wantFill f (nameB fnm) ht gap sp ls = 0 → f.err = 0 ∧ (∀ wx, FrmAt wx f → VlusAt wx L l → LtrsAt wx A ls → SubOk wx → SpOk wx → Calls Tryz.prog 30 #[f.val, .slice L l.length c, .agg #[.string ⟨fnm.toArray⟩, .int .i64 ht, .int .i64 gap, .int .i64 sp, .slice A ls.length lc]] wx fun e w' => DrawnRes wx.heap.size E W H BS e w' ∧ Bl wx w')) := by
  by_cases hz : wantFill f (nameB fnm) ht gap sp ls = 0
  · obtain ⟨hf, hg⟩ : f.err = 0 ∧ fontErr (nameB fnm) ht gap sp ls = 0 := by
     unfold wantFill at hz
     by_cases h : f.err = 0
     · rw [if_pos h] at hz; exact ⟨h, hz⟩
     · rw [if_neg h] at hz; exact absurd hz h
    obtain ⟨W, H, r, hfit⟩ := fits_of hf
    obtain ⟨ht', gap', sp', rfl, rfl, rfl, hR⟩ := right_of hg
    have hl1 : 0 < ls.length := by have := hR.many; omega
    have hl0 : ls[0]? = some (ls[0]'hl1) := List.getElem?_eq_getElem hl1
    obtain ⟨adl, rfl, -⟩ := hLs.at_ hl0
    exact ⟨_, W, H, _, fun wx hF hL hLs hN hC hv hSp => fill_ok f L c l fnm ht' gap' sp' adl lc ls W H r wx hf hfit hF hL hln hS hT hLs hfnm hlsn hg hN hC hv hSp, hfit.hWH, fun h => absurd hz h, fun _ => ⟨hf, fun wx hF hL hLs hv hSp => filledOf_any f L c l fnm ht' gap' sp' adl lc ls W H r wx hf hfit hF hL hlc hln hT hLs hR hv hSp⟩⟩
  · exact ⟨wantFill f (nameB fnm) ht gap sp ls, 0, 0, [], fun wx hF hL hLs hN hC hv hSp => fill_bad f L l.length c fnm ht gap sp A lc ls _ 0 0 [] wx hF hS hN hC hLs hfnm hlsn rfl hz, by omega, fun _ => rfl, fun h => absurd h hz⟩
 obtain ⟨E, W, H, BS, hfill, hWH, hE1, hE2⟩ := hmain
 obtain ⟨WE, hWE⟩ : ∃ y, y = wantFill f (nameB fnm) ht gap sp ls := ⟨_, rfl⟩
 obtain ⟨FE, hFE⟩ : ∃ y, y = f.err := ⟨_, rfl⟩
 obtain ⟨GE, hGE⟩ : ∃ y, y = fontErr (nameB fnm) ht gap sp ls := ⟨_, rfl⟩
 obtain ⟨LB, hLB⟩ : ∃ y, y = littleB f := ⟨_, rfl⟩
 rw [← hWE] at hE1 hE2 hwf
 rw [← hFE, ← hGE] at hwf
 rw [← hFE] at hfe hli hE2
 rw [← hGE] at hge
 rw [← hLB] at hli
 have hbi := fun (B : Nat) (wx : World) (a b : Int) (R : Option Addr) (m d : Nat) (k : Nat) (hv : Res B wx E W H (BS.map .bool) a b R m d) hk => bitsIs_any B E W H BS a b R m d 32 #[.pointer (some ⟨k, 0, none⟩)] wx hv hk (fun _ => by omega)
 obtain ⟨nm, fW, fH, reach, dark, AL, ac, la, FL, fc, lf, RL, rc, lr⟩ := f
 let w1 := ((w).alloc (.cells #[.string ⟨nm.toArray⟩, .int .i64 fW, .int .i64 fH, .int .i64 reach, .int .i64 dark, .slice AL la.length ac, .slice FL lf.length fc, .slice RL lr.length rc] 75)).alloc (.cells #[.string ⟨fnm.toArray⟩, .int .i64 ht, .int .i64 gap, .int .i64 sp, .slice A ls.length lc] 29)
 have w1b : Bl w w1 := ((Bl.refl w).alloc _).alloc _
 have w11 : Blk w1 (w.heap.size) 75 #[.string ⟨nm.toArray⟩, .int .i64 fW, .int .i64 fH, .int .i64 reach, .int .i64 dark, .slice AL la.length ac, .slice FL lf.length fc, .slice RL lr.length rc] := by
  have h0 := Blk.new (w) 75 #[.string ⟨nm.toArray⟩, .int .i64 fW, .int .i64 fH, .int .i64 reach, .int .i64 dark, .slice AL la.length ac, .slice FL lf.length fc, .slice RL lr.length rc]
  exact (h0.alloc _)
 have w12 : Blk w1 (w.heap.size + 1) 29 #[.string ⟨fnm.toArray⟩, .int .i64 ht, .int .i64 gap, .int .i64 sp, .slice A ls.length lc] := by
  have h0 := Blk.new ((w).alloc (.cells #[.string ⟨nm.toArray⟩, .int .i64 fW, .int .i64 fH, .int .i64 reach, .int .i64 dark, .slice AL la.length ac, .slice FL lf.length fc, .slice RL lr.length rc] 75)) 29 #[.string ⟨fnm.toArray⟩, .int .i64 ht, .int .i64 gap, .int .i64 sp, .slice A ls.length lc]
  simp only [World.size_alloc] at h0
  exact h0
 unfold Frm.val at hfe hli hfill hE2
 have Hfe := Lib.hid hfe; have Hge := Lib.hid hge; have Hli := Lib.hid hli; have Hfill := Lib.hid hfill; have HE1 := Lib.hid hE1; have HE2 := Lib.hid hE2; have Hbi := Lib.hid hbi; have Hwf := Lib.hid hwf
 have HF := Lib.hid (hF.bl w1b); have HN := Lib.hid (hN.bl w1b); have HC := Lib.hid (hC.bl w1b); have HL := Lib.hid (hL.bl w1b); have HLs := Lib.hid (hLs.bl w1b); have HV := Lib.hid (hv.bl w1b); have HSp := Lib.hid (hSp.bl w1b)
 have Hfm := Lib.hid (fun wx hN hC => formed_any wx hN hC)
 have k1 := w11.all8
 have k2 := w12.all5
 have HW1b := Lib.hid w1b
 unfold Frm.val
 clear hfe hge hli hfill hE1 hE2 hbi hwf hF hN hC hL hLs hv hSp w1b hWE hFE hGE hLB hS hT
 go_enter Tryz.func5, Tryz.ntmps5
 go_upto_region 1 with fail
 rw [show (w.alloc (.cells #[.string ⟨nm.toArray⟩, .int .i64 fW, .int .i64 fH, .int .i64 reach, .int .i64 dark, .slice AL la.length ac, .slice FL lf.length fc, .slice RL lr.length rc] 75)).alloc (.cells #[.string ⟨fnm.toArray⟩, .int .i64 ht, .int .i64 gap, .int .i64 sp, .slice A ls.length lc] 29) = w1 from rfl]
 clear_value w1
 go_upto_region 2 with (go_at_call 26; refine (Hfill.out _ HF.out HL.out HLs.out HN.out HC.out HV.out HSp.out).mono ?_; rintro e w2 ⟨⟨a, b, R, m, d, rfl, hres⟩, hb2⟩)
 obtain ⟨w3, hw3⟩ : ∃ x, x = w2.alloc (.cells #[.int .i64 a, .int .i64 b, .slice R m d] 24) := ⟨_, rfl⟩
 have b3 : Blk w3 w2.heap.size 24 #[.int .i64 a, .int .i64 b, .slice R m d] := by rw [hw3]; exact Blk.new _ _ _
 have hb3 : Bl w2 w3 := by rw [hw3]; exact (Bl.refl _).alloc _
 rw [← hw3]
 have B3 := Lib.hid b3; have Hb3 := Lib.hid (hb2.trans hb3); have Hres := Lib.hid (hres.bl hb3)
 have k1 := (w11.bl Hb3.out).all8
 have k2 := (w12.bl Hb3.out).all5
 clear hw3 b3 hb3 hb2 hres
 refine wp_region_flow [(true, 0), (true, 2), (false, 1), (false, 3), (false, 4), (false, 5), (true, 6)] (fun _ => false) (by kernel_rfl) (by kernel_rfl) (by kernel_rfl) (by kernel_rfl) ?_
 iterate 2
  apply Flow.calm2 _ _ rfl rfl
  · intro w' hb' K' hK'
    obtain ⟨hc', hf'⟩ := hb'.rule
    go_simp
    try go_ints
    exact hK'
  · intro K' hK'
    simp only [sqA]
    exact hK'
 apply Flow.move rfl
 go_wp2_with fail
 refine (Hfe.out _ (HF.out.bl Hb3.out.drew) (HN.out.bl Hb3.out.drew) (HC.out.bl Hb3.out.drew)).mono ?_
 rintro e w4 ⟨rfl, HB1⟩
 go_wp2_with fail
 refine ⟨fun _ => (by first | exact HB1 | exact Bl.refl _), ?_⟩
 apply Flow.move rfl
 go_wp2_with fail
 refine (Hge.out _ (HLs.out.bl (Hb3.out.trans (Bl.ofDrew HB1)))).mono ?_
 rintro e w5 ⟨rfl, HB2⟩
 go_wp2_with fail
 refine ⟨fun _ => (by first | exact HB2 | exact Bl.refl _), ?_⟩
 apply Flow.move rfl
 go_wp2_with fail
 first | refine ⟨fun _ => ?_, ?_⟩ | refine ⟨?_, ?_⟩
 · repeat' (first | exact Bl.refl _ | refine Bl.drewL ?_ | refine Bl.drew ?_ | refine Bl.alloc ?_ _)
 apply Flow.move rfl
 go_wp2_with fail
 refine (first2_any _ _ _ _ (Blk.new _ _ _)).mono ?_
 rintro e w6 ⟨rfl, rfl⟩
 go_wp2_with fail
 refine ⟨fun _ => (by first | exact HB4 | exact Bl.refl _), ?_⟩
 iterate 1
  apply Flow.asg _ rfl
  · intro K' hK'
    simp only [sqA, Act.eval, arr_getD, List.getD_cons_zero, List.getD_cons_succ]
    exact hK'
 refine Flow.done ?_
 rw [Hwf.out]
 obtain ⟨w6, hw6⟩ : ∃ x, x = w5.alloc (.cells #[.int .i64 FE, .int .i64 GE] 31) := ⟨_, rfl⟩
 have hb36 : Bl w3 w6 := by rw [hw6]; exact ((Bl.ofDrew HB1).trans HB2).alloc _
 rw [← hw6]
 have Hb36 := Lib.hid hb36; have Hb6 := Lib.hid (Hb3.out.trans hb36)
 have k1 := (w11.bl Hb6.out).all8
 have k2 := (w12.bl Hb6.out).all5
 clear HB1 HB2 hb36 hw6
 by_cases hz : WE ≠ 0
 · have hq : (WE == 0) = false := by simp [hz]
   have hq2 : (WE != 0) = true := by simp [hz]
   obtain rfl : WE = E := (HE1.out hz).symm
   have Hz := Lib.hid hz
   clear hz
   go_upto_region 5 with (go_at_call 28; refine (Hfm.out _ (HN.out.bl Hb6.out) (HC.out.bl Hb6.out)).mono ?_; rintro e w7 ⟨rfl, hb7⟩)
   obtain ⟨w8, hw8⟩ : ∃ x, x = w7.alloc (.cells #[.int .i64 0, .int .i64 0, .slice none 0 0] 24) := ⟨_, rfl⟩
   have hb68 : Bl w6 w8 := by rw [hw8]; exact hb7.alloc _
   have k3 := (B3.out.bl (Hb36.out.trans hb68)).all3
   have Hb8 := Lib.hid (Hb6.out.trans hb68)
   have Hres8 := Lib.hid (Hres.out.bl (Hb36.out.trans hb68))
   clear hb7 hb68 k1 k2
   go_upto_region 6 with fail
   rw [← hw8]
   clear hw8
   go_wp2_with (go_at_call 31; refine (Hbi.out _ _ _ _ _ _ _ _ Hres8.out (fun h => absurd h Hz.out)).mono ?_; rintro e w9 ⟨rfl, hb9⟩)
   go_ret
   exact ⟨rfl, HW1b.out.trans (Hb8.out.trans hb9)⟩
 have hz0 : WE = 0 := Classical.not_not.1 hz
 have hq : (WE == 0) = true := by simp [hz0]
 obtain ⟨hf0, hfo⟩ := HE2.out hz0
 have Hfo := Lib.hid hfo; have Hf0 := Lib.hid hf0
 have Hli2 := Lib.hid (fun wx => Hli.out hf0 wx)
 subst hz0
 clear hz hf0 hfo
 cases LB with
 | false =>
  go_wp2_with (first | (go_at_call 28; refine (Hfm.out _ (HN.out.bl Hb6.out) (HC.out.bl Hb6.out)).mono ?_; rintro e w7 ⟨rfl, hb7⟩; have k1 := (w11.bl (Hb6.out.trans hb7)).all8) | (go_at_call 29; refine (Hli2.out _).mono ?_; rintro e w8 ⟨rfl, hb8⟩) | (go_at_call 28; refine (Hfm.out _ (HN.out.bl (Hb6.out.trans (hb7.trans hb8))) (HC.out.bl (Hb6.out.trans (hb7.trans hb8)))).mono ?_; rintro e w9 ⟨rfl, hb9⟩))
  go_ret
  exact ⟨rfl, HW1b.out.trans (Hb6.out.trans (hb7.trans (hb8.trans hb9)))⟩
 | true =>
  go_upto_region 5 with (first | (go_at_call 28; refine (Hfm.out _ (HN.out.bl Hb6.out) (HC.out.bl Hb6.out)).mono ?_; rintro e w7 ⟨rfl, hb7⟩; have k1 := (w11.bl (Hb6.out.trans hb7)).all8) | (go_at_call 29; refine (Hli2.out _).mono ?_; rintro e w8 ⟨rfl, hb8⟩))
  obtain ⟨o, ho⟩ : ∃ x, x = w8.heap.size := ⟨_, rfl⟩
  obtain ⟨w9, hw9⟩ : ∃ x, x = w8.alloc (.cells #[.int .i64 0, .int .i64 0, .slice none 0 0] 24) := ⟨_, rfl⟩
  have b9 : Blk w9 o 24 #[.int .i64 0, .int .i64 0, .slice none 0 0] := by rw [hw9, ho]; exact Blk.new _ _ _
  have hb69 : Bl w6 w9 := by rw [hw9]; exact (hb7.trans hb8).alloc _
  have Hb9 := Lib.hid (Hb6.out.trans hb69); have Hb39 := Lib.hid (Hb36.out.trans hb69); have B9 := Lib.hid b9
  have k1 := (w11.bl Hb9.out).all8
  have k2 := (w12.bl Hb9.out).all5
  have ho3 : w3.heap.size ≤ o := by rw [ho]; exact (Hb36.out.trans (hb7.trans hb8)).le
  have hol := b9.lt
  clear hb7 hb8 hb69 b9
  go_upto_region 6 with fail
  rw [← hw9, ← ho]
  clear hw9 ho
  go_upto_region 7 with fail
  go_cut [9] from 38 to 45 (fun s wc => s = .int .i64 E ∧ Bl w3 wc ∧ ∃ (W' H' : Int) (R' : Option Addr) (m' d' : Nat), Blk wc o 24 #[.int .i64 W', .int .i64 H', .slice R' m' d'] ∧ Res w9.heap.size wc E W H (BS.map .bool) W' H' R' m' d')
  case first =>
   go_wp2_with (go_at_call 30; refine (Hfo.out _ (HF.out.bl Hb9.out) (HL.out.bl Hb9.out) (HLs.out.bl Hb9.out) (HV.out.bl Hb9.out) (HSp.out.bl Hb9.out)).mono ?_; rintro e w10 ⟨⟨a', b', R', m', d', rfl, hres'⟩, hb10⟩; have B10 := Lib.hid (B9.out.bl hb10); have k3 := B10.out.all3; have Hb10 := Lib.hid hb10; have Hr10 := Lib.hid hres'; clear hb10 hres')
   go_meet
   case rel =>
    refine ⟨rfl, (((Hb39.out.trans Hb10.out).setCell ho3 _).setCell ho3 _).setCell ho3 _, a', b', R', m', d', ((B10.out.set_ 0 _).set_ 1 _).set_ 2 _, ?_⟩
    exact ⟨fun h => (((Hr10.out.1 h).store hol _).store hol _).store hol _, Hr10.out.2⟩
  case rest =>
  rename World => w10
  obtain ⟨rfl, hb10, W', H', R', m', d', bo, hres'⟩ := hcut
  have Hb10 := Lib.hid hb10
  have k3 := (B3.out.bl hb10).all3
  have Hres10 := Lib.hid (Hres.out.bl hb10)
  have Hmk := Lib.hid (fun (h : E = 0) => show MakesPage Tryz.prog 32 #[.pointer (some ⟨o, 0, none⟩)] w10 W H (BS.map .bool) by
   obtain ⟨R1, c1, eq1, hR1, hRn1⟩ := hres'.1 h
   simp only [Value.agg.injEq, Array.mk.injEq, List.cons.injEq, Value.int.injEq, Value.slice.injEq, and_true, true_and] at eq1
   obtain ⟨rfl, rfl, rfl, rfl, rfl⟩ := eq1
   exact fills1_makes o W H R' d' _ w10 bo hR1)
  clear hb10 bo hres' k1 k2 ho3 hol
  go_wp2_with (go_at_call 31; refine (Hbi.out _ _ _ _ _ _ _ _ Hres10.out Hmk.out).mono ?_; rintro e w11 ⟨rfl, hb11⟩)
  go_ret
  exact ⟨rfl, HW1b.out.trans (Hb3.out.trans (Hb10.out.trans hb11))⟩
end Go.Proofs.YthobmednnocklaaGreatDoor
