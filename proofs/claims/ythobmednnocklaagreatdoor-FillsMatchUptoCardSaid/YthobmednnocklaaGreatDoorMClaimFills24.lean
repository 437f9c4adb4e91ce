/- bedref2.drawn of a code, and of both kinds. -/
import Derived.Test.YthobmednnocklaaGreatDoorMClaimFills23
import Derived.Test.YthobmednnocklaaGreatDoorMClaimFills16
import Derived.Test.YthobmednnocklaaGreatDoorMClaimFills12
import Derived.Test.YthobmednnocklaaGreatDoorMClaimFills17
import Derived.Test.YthobmednnocklaaGreatDoorMClaimFills8
import Derived.Test.YthobmednnocklaaGreatDoorMClaimFills7
import Derived.Test.YthobmednnocklaaGreatDoorMClaimFills9
import Derived.Test.YthobmednnocklaaGreatDoorMClaimFills20
import Derived.Test.YthobmednnocklaaGreatDoorMClaimFills22
import Derived.Test.YthobmednnocklaaGreatDoorMClaimFills2

namespace Go.Proofs.YthobmednnocklaaGreatDoor

theorem setErr_size {ls : List Ltr} {ht gap sp : Nat} {t : List UInt8} (h : setErr ls ht gap sp t = 0) : sizeErr (wideOf ls gap sp t) ht = 0 := by
 unfold setErr at h
 split at h
 · exact h
 · rename_i hn; exact absurd h hn
/-- A field of a right form that has no marks. -/
structure BoxOk (x : Fld) (W H : Nat) : Prop where
 inW : ∃ X Y w h : Nat, x.box = ⟨X, Y, w, h⟩ ∧ 1 ≤ w ∧ 1 ≤ h ∧ X + w ≤ W ∧ Y + h ≤ H
theorem inP_nat {b : Bx} {W H : Nat} (h : b.inP W H = true) : ∃ X Y w h : Nat, b = ⟨X, Y, w, h⟩ ∧ 1 ≤ w ∧ 1 ≤ h ∧ X + w ≤ W ∧ Y + h ≤ H := by
 obtain ⟨X, Y, w, hh⟩ := b
 have h := of_decide_eq_true (show decide (0 ≤ X ∧ X < (W : Int) ∧ 0 ≤ Y ∧ Y < (H : Int) ∧ 1 ≤ w ∧ w ≤ (W : Int) - X ∧ 1 ≤ hh ∧ hh ≤ (H : Int) - Y) = true from h)
 obtain ⟨X', rfl⟩ := Int.eq_ofNat_of_zero_le (show 0 ≤ X by omega)
 obtain ⟨Y', rfl⟩ := Int.eq_ofNat_of_zero_le (show 0 ≤ Y by omega)
 obtain ⟨w', rfl⟩ := Int.eq_ofNat_of_zero_le (show 0 ≤ w by omega)
 obtain ⟨h', rfl⟩ := Int.eq_ofNat_of_zero_le (show 0 ≤ hh by omega)
 exact ⟨X', Y', w', h', rfl, by omega, by omega, by omega, by omega⟩
theorem fields_ok {f : Frm} {W H r : Nat} (hf : f.err = 0) (hfit : Fits f W H r) {x : Fld} (hx : x ∈ f.lf) : (∀ b ∈ x.marks, ∃ X Y w h : Nat, b = ⟨X, Y, w, h⟩ ∧ 1 ≤ w ∧ 1 ≤ h ∧ X + w ≤ W ∧ Y + h ≤ H) ∧ (marksB x.kind = false → BoxOk x W H) ∧ x.marks.length ≤ 20 ∧ (1 ≤ x.kind ∧ x.kind ≤ 4) := by
 obtain ⟨-, -, -, hfl⟩ := frm_ok hf
 obtain ⟨pv, he⟩ := fldsErr_each hfl x hx
 obtain ⟨h1, h2, h3, h4, h5, h6, h7⟩ := fldE_ok he
 rw [hfit.fW, hfit.fH] at h1 h7
 refine ⟨fun b hb => inP_nat (h1 b ?_), fun hm => ⟨inP_nat (h7 hm)⟩, h5, h4⟩
 unfold fldBoxes
 exact List.mem_append_right _ hb
theorem box_size {x : Fld} {W H : Nat} (hb : BoxOk x W H) (hW : W ≤ 4000) (hH : H ≤ 4000) (hWH : W * H ≤ 1048576) : ∃ h : Nat, x.box.H = (h : Int) ∧ (1 ≤ h ∧ h ≤ 4000) ∧ x.box.W ≤ 4000 ∧ x.box.W * (h : Int) ≤ 1048576 := by
 obtain ⟨X, Y, w, h, e, h1, h2, h3, h4⟩ := hb.inW
 rw [e]
 refine ⟨h, rfl, ⟨h2, by omega⟩, show (w : Int) ≤ 4000 by omega, ?_⟩
 have := Nat.mul_le_mul (show w ≤ W by omega) (show h ≤ H by omega)
 show (w : Int) * (h : Int) ≤ 1048576
 have e2 := Int.natCast_mul w h
 omega
theorem drawnE_eq {ls : List Ltr} {ht gap sp : Nat} {x : Fld} {t : List UInt8} {h : Nat} (hb : x.kind ≠ 1 → x.box.H = (h : Int)) : drawnE ls ht gap sp x t = if drawnE0 ls ht gap sp x t = 0 then whenI (decide (x.box.W < (drawnW ls gap sp x t : Int)) || decide (x.box.H < (drawnH ht x : Int))) 15 else drawnE0 ls ht gap sp x t := by
 unfold drawnE drawnE0 drawnW drawnH
 by_cases hk : x.kind = 1
 · simp only [if_pos hk]
 · simp only [if_neg hk]
   by_cases hc : codeErr t = 0
   · simp only [if_pos hc]
     rw [hb hk, Int.toNat_natCast, decide_eq_false (show ¬ (h : Int) < (h : Int) by omega), Bool.or_false]
     cases decide (x.box.W < ((codeM t).length : Int)) <;> simp [whenI]
   · simp only [if_neg hc]
theorem drawn_size {ls : List Ltr} {ht gap sp : Nat} {x : Fld} {t : List UInt8} {W H : Nat} (hb : BoxOk x W H) (hW : W ≤ 4000) (hH : H ≤ 4000) (hWH : W * H ≤ 1048576) (h0 : drawnE0 ls ht gap sp x t = 0) : sizeErr (drawnW ls gap sp x t : Int) (drawnH ht x : Int) = 0 := by
 unfold drawnE0 at h0
 unfold drawnW drawnH
 by_cases hk : x.kind = 1
 · rw [if_pos hk] at h0 ⊢
   rw [if_pos hk]
   exact setErr_size h0
 · rw [if_neg hk] at h0 ⊢
   rw [if_neg hk]
   by_cases hc : codeErr t = 0
   · rw [if_pos hc] at h0
     obtain ⟨c1, c2, c3⟩ := codeM_ok hc
     have hw := whenI_no (by decide) h0
     obtain ⟨h, e1, e2, e3, e4⟩ := box_size hb hW hH hWH
     have hd := draw_right c1 c2 (h := h) (bW := x.box.W) (by simpa using hw) e3 e2 e4
     unfold drawErr at hd
     rw [if_neg c2, if_neg (by rw [c1]; decide)] at hd
     split at hd
     · exact absurd hd (by decide)
     · rw [show ((2 : Int) * 0 + 1 * ((codeM t).length : Int)) = ((codeM t).length : Int) by omega] at hd
       rw [e1, Int.toNat_natCast]
       exact hd
   · rw [if_neg hc] at h0
     exact absurd h0 hc
theorem vluErrS_some {fs : List Fld} {tw : Bool} {v : Vlu} (h : vluErrS fs tw v = 0) : ∃ x, fldOf fs v.field = some x ∧ wrongW x v = false ∧ (∀ m ∈ v.marks, 0 ≤ m ∧ m < (x.marks.length : Int)) ∧ tw = false := by
 unfold vluErrS at h
 split at h
 · exact absurd h (by decide)
 · rename_i x hx
   have hz := firstNZ_zero h
   have h1 := whenI_no (by decide) (hz (whenI tw 6) (by simp))
   have h2 := whenI_no (by decide) (hz (whenI (wrongAllS x v) 2) (by simp))
   have h3 := whenI_no (by decide) (hz (rangeE x v.marks) (by simp))
   refine ⟨x, hx, ?_, fun m hm => ?_, h1⟩
   · cases hw : wrongW x v with
     | false => rfl
     | true =>
      have := wrongTo_mono (w0 := wrongW x v) (l := v.marks) (j := 0) hw (max 1 v.marks.length) (Nat.zero_le _)
      unfold wrongAllS at h2
      rw [this] at h2
      cases h2
   · have := List.any_eq_false.1 h3 m hm
     have hi : inB m 0 ((x.marks.length : Int) - 1) = true := by simpa using this
     have := inB_true.1 hi
     omega
/-- A value with a text is one of a field without marks. -/
theorem text_marks {x : Fld} {v : Vlu} (h : wrongW x v = false) (ht : v.text ≠ []) : marksB x.kind = false := by
 unfold wrongW wrongV at h
 simp only [Bool.or_eq_false_iff] at h
 have h1 := h.2.1
 cases hm : marksB x.kind with
 | false => rfl
 | true =>
  rw [hm] at h1
  cases hv : v.text with
  | nil => exact absurd hv ht
  | cons => rw [hv] at h1; cases h1
theorem fillV_bad {ls : List Ltr} {ht gap sp W H : Nat} {fs : List Fld} {tw : Bool} {v : Vlu} {pg : List Bool} (h : vluErrS fs tw v ≠ 0) : fillV ls ht gap sp W H fs tw v pg = (vluErrS fs tw v, if fldOf fs v.field = none then [] else []) := by
 unfold fillV
 cases hf : fldOf fs v.field with
 | none => simp only; unfold vluErrS; rw [hf]; rfl
 | some x => simp only [if_neg h]; rfl
theorem fillV_err {ls : List Ltr} {ht gap sp W H : Nat} {fs : List Fld} {tw : Bool} {v : Vlu} {pg : List Bool} (h : vluErrS fs tw v ≠ 0) : (fillV ls ht gap sp W H fs tw v pg).1 = vluErrS fs tw v := by rw [fillV_bad h]
theorem fillV_none {ls : List Ltr} {ht gap sp W H : Nat} {fs : List Fld} {tw : Bool} {v : Vlu} {pg : List Bool} {x : Fld} (h : vluErrS fs tw v = 0) (hx : fldOf fs v.field = some x) (ht0 : v.text = []) : fillV ls ht gap sp W H fs tw v pg = (0, marksTo W H x v.marks pg v.marks.length) := by
 unfold fillV
 rw [hx]
 simp only [if_pos h, if_pos ht0]
theorem fillV_text {ls : List Ltr} {ht gap sp W H : Nat} {fs : List Fld} {tw : Bool} {v : Vlu} {pg : List Bool} {x : Fld} (h : vluErrS fs tw v = 0) (hx : fldOf fs v.field = some x) (ht0 : v.text ≠ []) : fillV ls ht gap sp W H fs tw v pg =
 if drawnE ls ht gap sp x v.text = 0 then (0, grid W H (pasteF (marksTo W H x v.marks pg v.marks.length) (drawnB ls ht gap sp x v.text) W H (drawnW ls gap sp x v.text) (drawnH ht x) x.box.X x.box.Y)) else (drawnE ls ht gap sp x v.text, []) := by
 unfold fillV
 rw [hx]
 simp only [if_pos h, if_neg ht0]
end Go.Proofs.YthobmednnocklaaGreatDoor


/-! forms.Fill where a check fails. -/
namespace Go.Proofs.YthobmednnocklaaGreatDoor
open Go.RowKit Go.Shelf

set_option maxRecDepth 100000 in
set_option maxHeartbeats 4000000 in
theorem fill_bad (f : Frm) (L : Option Addr) (n c : Nat) (fnm : List UInt8) (ht gap sp : Int) (A : Option Addr) (lc : Nat) (ls : List Ltr) (E : Int) (W H : Nat) (bs : List Bool) (w : World) (hF : FrmAt w f) (hS : f.small 1048576) (hN : NumOk w) (hC : SplitOk w)
 (hLs : LtrsAt w A ls) (hfnm : fnm.length ≤ 9223372036854775807) (hlsn : ls.length ≤ 9223372036854775807) (hE : E = if f.err = 0 then fontErr (nameB fnm) ht gap sp ls else f.err) (hz : E ≠ 0) :
 Calls Tryz.prog 26 #[f.val, .slice L n c, .agg #[.string ⟨fnm.toArray⟩, .int .i64 ht, .int .i64 gap, .int .i64 sp, .slice A ls.length lc]] w fun e w' => DrawnRes w.heap.size E W H bs e w' ∧ Bl w w' := by
 have hck := fun wx hF hN hC => checkF_any f wx hF hS hN hC
 have hfc := fun wx hL => check_any fnm ht gap sp A lc ls wx hL hfnm hlsn
 obtain ⟨FE, hFE⟩ : ∃ y, y = f.err := ⟨_, rfl⟩
 obtain ⟨GE, hGE⟩ : ∃ y, y = fontErr (nameB fnm) ht gap sp ls := ⟨_, rfl⟩
 rw [← hFE] at hck hE
 rw [← hGE] at hfc hE
 obtain ⟨nm, fW, fH, reach, dark, AL, ac, la, FL, fc, lf, RL, rc, lr⟩ := f
 let w1 := (((w).alloc (.cells #[.string ⟨nm.toArray⟩, .int .i64 fW, .int .i64 fH, .int .i64 reach, .int .i64 dark, .slice AL la.length ac, .slice FL lf.length fc, .slice RL lr.length rc] 75)).alloc (.cells #[.string ⟨fnm.toArray⟩, .int .i64 ht, .int .i64 gap, .int .i64 sp, .slice A ls.length lc] 29)).alloc (.cells #[.int .i64 0, .int .i64 0, .slice none 0 0] 24)
 have w1b : Bl w w1 := (((Bl.refl w).alloc _).alloc _).alloc _
 have w11 : Blk w1 (w.heap.size) 75 #[.string ⟨nm.toArray⟩, .int .i64 fW, .int .i64 fH, .int .i64 reach, .int .i64 dark, .slice AL la.length ac, .slice FL lf.length fc, .slice RL lr.length rc] := by
  have h0 := Blk.new (w) 75 #[.string ⟨nm.toArray⟩, .int .i64 fW, .int .i64 fH, .int .i64 reach, .int .i64 dark, .slice AL la.length ac, .slice FL lf.length fc, .slice RL lr.length rc]
  exact ((h0.alloc _).alloc _)
 have w12 : Blk w1 (w.heap.size + 1) 29 #[.string ⟨fnm.toArray⟩, .int .i64 ht, .int .i64 gap, .int .i64 sp, .slice A ls.length lc] := by
  have h0 := Blk.new ((w).alloc (.cells #[.string ⟨nm.toArray⟩, .int .i64 fW, .int .i64 fH, .int .i64 reach, .int .i64 dark, .slice AL la.length ac, .slice FL lf.length fc, .slice RL lr.length rc] 75)) 29 #[.string ⟨fnm.toArray⟩, .int .i64 ht, .int .i64 gap, .int .i64 sp, .slice A ls.length lc]
  simp only [World.size_alloc] at h0
  exact (h0.alloc _)
 have w13 : Blk w1 (w.heap.size + 1 + 1) 24 #[.int .i64 0, .int .i64 0, .slice none 0 0] := by
  have h0 := Blk.new (((w).alloc (.cells #[.string ⟨nm.toArray⟩, .int .i64 fW, .int .i64 fH, .int .i64 reach, .int .i64 dark, .slice AL la.length ac, .slice FL lf.length fc, .slice RL lr.length rc] 75)).alloc (.cells #[.string ⟨fnm.toArray⟩, .int .i64 ht, .int .i64 gap, .int .i64 sp, .slice A ls.length lc] 29)) 24 #[.int .i64 0, .int .i64 0, .slice none 0 0]
  simp only [World.size_alloc] at h0
  exact h0
 have sz1 : w1.heap.size = w.heap.size + 1 + 1 + 1 := by simp [w1]
 unfold Frm.val at hck
 have Hck := Lib.hid (hck w1 (hF.bl w1b) (hN.bl w1b) (hC.bl w1b)); have Hfc := Lib.hid hfc; have HLs := Lib.hid (hLs.bl w1b); have HE := Lib.hid hE; have Hz := Lib.hid hz
 have k1 := w11.all8
 have HW1b := Lib.hid w1b
 unfold Frm.val
 clear hF hLs hck hfc hN hC w1b hS hFE hGE hE hz
 go_enter Tryz.func26, Tryz.ntmps26
 go_upto_region 1 with fail
 rw [show ((w.alloc (.cells #[.string ⟨nm.toArray⟩, .int .i64 fW, .int .i64 fH, .int .i64 reach, .int .i64 dark, .slice AL la.length ac, .slice FL lf.length fc, .slice RL lr.length rc] 75)).alloc (.cells #[.string ⟨fnm.toArray⟩, .int .i64 ht, .int .i64 gap, .int .i64 sp, .slice A ls.length lc] 29)).alloc (.cells #[.int .i64 0, .int .i64 0, .slice none 0 0] 24) = w1 from rfl]
 clear_value w1
 go_upto_region 2 with (go_at_call 63; refine Hck.out.mono ?_; rintro e w2 ⟨rfl, hb2⟩)
 have Hb2 := Lib.hid hb2
 have hle2 := hb2.le
 clear k1
 by_cases h0 : FE ≠ 0
 · have hq : (FE != 0) = true := by simp [h0]
   have HX := Lib.hid (show E = FE by rw [HE.out, if_neg h0])
   have B3 := Lib.hid (w13.bl hb2)
   have k3 := B3.out.all3
   clear hb2 h0
   go_wp2_with fail
   obtain ⟨wS, hwS⟩ : ∃ wzz, wzz = ((w2.setCell ⟨w.heap.size + 1 + 1, 0, none⟩ (.int .i64 0)).setCell ⟨w.heap.size + 1 + 1, 1, none⟩ (.int .i64 0)).setCell ⟨w.heap.size + 1 + 1, 2, none⟩ (.slice none 0 0) := ⟨_, rfl⟩
   have bS : Blk wS (w.heap.size + 1 + 1) 24 #[.int .i64 0, .int .i64 0, .slice none 0 0] := by rw [hwS]; exact ((B3.out.set_ 0 _).set_ 1 _).set_ 2 _
   have hS : Bl w wS := by rw [hwS]; exact (((HW1b.out.trans Hb2.out).setCell (by show w.heap.size ≤ w.heap.size + 1 + 1; omega) _).setCell (by show w.heap.size ≤ w.heap.size + 1 + 1; omega) _).setCell (by show w.heap.size ≤ w.heap.size + 1 + 1; omega) _
   rw [← hwS]
   have kF := bS.all3
   refine bodyPost_ret (v := .tuple #[.agg #[.int .i64 0, .int .i64 0, .slice none 0 0], .int .i64 FE]) (by simp [results, Tryz.results26, go_sem, kF]) rfl ⟨⟨0, 0, none, 0, 0, by rw [HX.out], Res.zero _ _ _ _ _ Hz.out⟩, hS⟩
 have h00 : FE = 0 := Classical.not_not.1 h0
 have HX := Lib.hid (show E = GE by rw [HE.out, if_pos h00])
 have k2 := (w12.bl hb2).all5
 subst h00
 clear h0 hb2
 go_upto_region 5 with (go_at_call 33; refine (Hfc.out _ (HLs.out.bl Hb2.out)).mono ?_; rintro e w3 ⟨rfl, hb3⟩)
 have Hb3 := Lib.hid (Hb2.out.trans hb3)
 have hq : (GE != 0) = true := by have := Hz.out; rw [HX.out] at this; simpa using this
 have B3 := Lib.hid (w13.bl Hb3.out)
 have k3 := B3.out.all3
 have hle3 := Hb3.out.le
 clear hb3 k2
 go_wp2_with fail
 obtain ⟨wS, hwS⟩ : ∃ wzz, wzz = ((w3.setCell ⟨w.heap.size + 1 + 1, 0, none⟩ (.int .i64 0)).setCell ⟨w.heap.size + 1 + 1, 1, none⟩ (.int .i64 0)).setCell ⟨w.heap.size + 1 + 1, 2, none⟩ (.slice none 0 0) := ⟨_, rfl⟩
 have bS : Blk wS (w.heap.size + 1 + 1) 24 #[.int .i64 0, .int .i64 0, .slice none 0 0] := by rw [hwS]; exact ((B3.out.set_ 0 _).set_ 1 _).set_ 2 _
 have hS : Bl w wS := by rw [hwS]; exact (((HW1b.out.trans Hb3.out).setCell (by show w.heap.size ≤ w.heap.size + 1 + 1; omega) _).setCell (by show w.heap.size ≤ w.heap.size + 1 + 1; omega) _).setCell (by show w.heap.size ≤ w.heap.size + 1 + 1; omega) _
 rw [← hwS]
 have kF := bS.all3
 refine bodyPost_ret (v := .tuple #[.agg #[.int .i64 0, .int .i64 0, .slice none 0 0], .int .i64 GE]) (by simp [results, Tryz.results26, go_sem, kF]) rfl ⟨⟨0, 0, none, 0, 0, by rw [HX.out], Res.zero _ _ _ _ _ Hz.out⟩, hS⟩
end Go.Proofs.YthobmednnocklaaGreatDoor


/-! bedref2.drawn: what the reference draws of a value. -/
namespace Go.Proofs.YthobmednnocklaaGreatDoor
open Go.RowKit Go.Shelf

/-- What the reference's drawn says is wrong, ahead of the look at the box. -/
def drawnER (ls : List Ltr) (ht gap sp : Nat) (x : Fld) (t : List UInt8) : Int := if x.kind = 1 then setErr ls ht gap sp t else codeErr t
set_option maxRecDepth 100000 in
set_option maxHeartbeats 8000000 in
theorem drawnT_any (x : Fld) (v : Vlu) (nm : List UInt8) (ht gap sp : Nat) (adl : Addr) (c : Nat) (ls : List Ltr) (w : World) (hk : x.kind = 1) (hL : LtrsAt w (some adl) ls) (hR : Right ht gap sp ls) (htl : v.text.length ≤ 1048576) (hv : SubOk w) :
 Calls Tryz.prog 80 #[x.val, v.val, .agg #[.string ⟨nm.toArray⟩, .int .i64 ht, .int .i64 gap, .int .i64 sp, .slice (some adl) ls.length c]] w fun e w' => DrawnRes w.heap.size (setErr ls ht gap sp v.text) (wideOf ls gap sp v.text) ht (setCells ls ht gap sp v.text) e w' ∧ Bl w w' := by
 have hte := fun wx hL hv => textError_any nm ht gap sp adl c ls v.text wx hL hR htl hv
 have hwo := fun wx l hL hl => widthOf_any nm ht gap sp adl c ls v.text l wx hL hR htl hl
 have hso := fun wx l W hL hl hW hW4 => setOf_any nm ht gap sp adl c ls v.text l W wx hL hR htl hl hW hW4
 have hse := fun wx => sizeError_any (wideOf ls gap sp v.text) ht wx
 obtain ⟨TE, hTE⟩ : ∃ e, e = textErr ls v.text := ⟨_, rfl⟩
 obtain ⟨SE, hSE⟩ : ∃ e, e = sizeErr (wideOf ls gap sp v.text) ht := ⟨_, rfl⟩
 obtain ⟨WW, hWW⟩ : ∃ e, e = wideOf ls gap sp v.text := ⟨_, rfl⟩
 obtain ⟨SC, hSC⟩ : ∃ e, e = setCells ls ht gap sp v.text := ⟨_, rfl⟩
 obtain ⟨E, hE⟩ : ∃ e, e = setErr ls ht gap sp v.text := ⟨_, rfl⟩
 have hE2 : E = if TE = 0 then SE else TE := by rw [hE, hTE, hSE]; rfl
 have hspt : TE = 0 → ∃ l, spelt ls v.text = some l := fun h => by
  have hz := firstNZ_zero (show firstNZ [lineErr v.text, whenI (!(spelt ls v.text).isSome) 10] = 0 from hTE.symm.trans h)
  have h2 := whenI_no (show (10 : Int) ≠ 0 by decide) (hz (whenI (!(spelt ls v.text).isSome) 10) (by simp))
  exact Option.isSome_iff_exists.1 (by simpa using h2)
 rw [← hTE] at hte
 rw [← hSE, ← hWW] at hse
 rw [← hE, ← hWW, ← hSC]
 have q : (x.kind == 1) = true := by simpa using hk
 have hwd : ∀ l, spelt ls v.text = some l → WW = (goAll ls gap sp (0, false) l).1 := fun l h => by rw [hWW]; unfold wideOf; rw [itemsOf_some h]
 have hsc : ∀ l, spelt ls v.text = some l → SC = grid WW ht (setF ls (putAt ls gap sp (0, false) l)) := fun l h => by rw [hSC, hWW]; unfold setCells; rw [itemsOf_some h]
 let w1 := ((((w).alloc (.cells #[.string ⟨x.name.toArray⟩, .int .i64 x.kind, .int .i64 x.box.X, .int .i64 x.box.Y, .int .i64 x.box.W, .int .i64 x.box.H, .slice x.M x.marks.length x.mc, .int .i64 x.most, .bool x.needed] 136)).alloc (.cells #[.string ⟨v.field.toArray⟩, .string ⟨v.text.toArray⟩, .slice v.M v.marks.length v.mc, .int .i64 v.sure] 132)).alloc (.cells #[.string ⟨nm.toArray⟩, .int .i64 ht, .int .i64 gap, .int .i64 sp, .slice (some adl) ls.length c] 29)).alloc (.cells #[.int .i64 0, .int .i64 0, .slice none 0 0] 24)
 have w1b : Bl w w1 := ((((Bl.refl w).alloc _).alloc _).alloc _).alloc _
 have w11 : Blk w1 (w.heap.size) 136 #[.string ⟨x.name.toArray⟩, .int .i64 x.kind, .int .i64 x.box.X, .int .i64 x.box.Y, .int .i64 x.box.W, .int .i64 x.box.H, .slice x.M x.marks.length x.mc, .int .i64 x.most, .bool x.needed] := by
  have h0 := Blk.new (w) 136 #[.string ⟨x.name.toArray⟩, .int .i64 x.kind, .int .i64 x.box.X, .int .i64 x.box.Y, .int .i64 x.box.W, .int .i64 x.box.H, .slice x.M x.marks.length x.mc, .int .i64 x.most, .bool x.needed]
  exact (((h0.alloc _).alloc _).alloc _)
 have w12 : Blk w1 (w.heap.size + 1) 132 #[.string ⟨v.field.toArray⟩, .string ⟨v.text.toArray⟩, .slice v.M v.marks.length v.mc, .int .i64 v.sure] := by
  have h0 := Blk.new ((w).alloc (.cells #[.string ⟨x.name.toArray⟩, .int .i64 x.kind, .int .i64 x.box.X, .int .i64 x.box.Y, .int .i64 x.box.W, .int .i64 x.box.H, .slice x.M x.marks.length x.mc, .int .i64 x.most, .bool x.needed] 136)) 132 #[.string ⟨v.field.toArray⟩, .string ⟨v.text.toArray⟩, .slice v.M v.marks.length v.mc, .int .i64 v.sure]
  simp only [World.size_alloc] at h0
  exact ((h0.alloc _).alloc _)
 have w13 : Blk w1 (w.heap.size + 1 + 1) 29 #[.string ⟨nm.toArray⟩, .int .i64 ht, .int .i64 gap, .int .i64 sp, .slice (some adl) ls.length c] := by
  have h0 := Blk.new (((w).alloc (.cells #[.string ⟨x.name.toArray⟩, .int .i64 x.kind, .int .i64 x.box.X, .int .i64 x.box.Y, .int .i64 x.box.W, .int .i64 x.box.H, .slice x.M x.marks.length x.mc, .int .i64 x.most, .bool x.needed] 136)).alloc (.cells #[.string ⟨v.field.toArray⟩, .string ⟨v.text.toArray⟩, .slice v.M v.marks.length v.mc, .int .i64 v.sure] 132)) 29 #[.string ⟨nm.toArray⟩, .int .i64 ht, .int .i64 gap, .int .i64 sp, .slice (some adl) ls.length c]
  simp only [World.size_alloc] at h0
  exact (h0.alloc _)
 have w14 : Blk w1 (w.heap.size + 1 + 1 + 1) 24 #[.int .i64 0, .int .i64 0, .slice none 0 0] := by
  have h0 := Blk.new ((((w).alloc (.cells #[.string ⟨x.name.toArray⟩, .int .i64 x.kind, .int .i64 x.box.X, .int .i64 x.box.Y, .int .i64 x.box.W, .int .i64 x.box.H, .slice x.M x.marks.length x.mc, .int .i64 x.most, .bool x.needed] 136)).alloc (.cells #[.string ⟨v.field.toArray⟩, .string ⟨v.text.toArray⟩, .slice v.M v.marks.length v.mc, .int .i64 v.sure] 132)).alloc (.cells #[.string ⟨nm.toArray⟩, .int .i64 ht, .int .i64 gap, .int .i64 sp, .slice (some adl) ls.length c] 29)) 24 #[.int .i64 0, .int .i64 0, .slice none 0 0]
  simp only [World.size_alloc] at h0
  exact h0
 have sz1 : w1.heap.size = w.heap.size + 4 := by simp [w1]
 have Hte := Lib.hid (hte w1 (hL.bl w1b) (hv.bl w1b)); have Hwo := Lib.hid hwo; have Hso := Lib.hid hso; have Hse := Lib.hid hse; have HL := Lib.hid (hL.bl w1b); have HE := Lib.hid hE2; have Hsp := Lib.hid hspt; have Hwd := Lib.hid hwd; have Hsc := Lib.hid hsc; have HSE := Lib.hid hSE; have HWW := Lib.hid hWW
 have k1 := w11.all9
 have k2 := w12.all4
 have k3 := w13.all5
 have HW1b := Lib.hid w1b
 unfold Fld.val Vlu.val
 clear hte hwo hso hse hL hE2 hspt hwd hsc hTE hSE hWW hSC hE hk w1b hv
 go_enter Tryz.func80, Tryz.ntmps80
 go_upto_region 1 with fail
 rw [show ((((w.alloc (.cells #[.string ⟨x.name.toArray⟩, .int .i64 x.kind, .int .i64 x.box.X, .int .i64 x.box.Y, .int .i64 x.box.W, .int .i64 x.box.H, .slice x.M x.marks.length x.mc, .int .i64 x.most, .bool x.needed] 136)).alloc (.cells #[.string ⟨v.field.toArray⟩, .string ⟨v.text.toArray⟩, .slice v.M v.marks.length v.mc, .int .i64 v.sure] 132)).alloc (.cells #[.string ⟨nm.toArray⟩, .int .i64 ht, .int .i64 gap, .int .i64 sp, .slice (some adl) ls.length c] 29)).alloc (.cells #[.int .i64 0, .int .i64 0, .slice none 0 0] 24)) = w1 from rfl]
 clear_value w1
 go_upto_region 3 with (go_at_call 148; refine Hte.out.mono ?_; rintro e w2 ⟨rfl, hb2⟩)
 have Hb2 := Lib.hid hb2
 have hle2 := hb2.le
 by_cases hz : TE ≠ 0
 · have hq : (TE != 0) = true := by simp [hz]
   have HX := Lib.hid (show E = TE ∧ TE ≠ 0 from ⟨by rw [HE.out, if_neg hz], hz⟩)
   have B4 := Lib.hid (w14.bl hb2)
   have k4 := B4.out.all3
   clear hz hb2
   go_wp2_with fail
   obtain ⟨wS, hwS⟩ : ∃ wzz, wzz = ((w2.setCell ⟨w.heap.size + 1 + 1 + 1, 0, none⟩ (.int .i64 0)).setCell ⟨w.heap.size + 1 + 1 + 1, 1, none⟩ (.int .i64 0)).setCell ⟨w.heap.size + 1 + 1 + 1, 2, none⟩ (.slice none 0 0) := ⟨_, rfl⟩
   have bS : Blk wS (w.heap.size + 1 + 1 + 1) 24 #[.int .i64 0, .int .i64 0, .slice none 0 0] := by rw [hwS]; exact ((B4.out.set_ 0 _).set_ 1 _).set_ 2 _
   have hS : Bl w wS := by rw [hwS]; exact (((HW1b.out.trans Hb2.out).setCell (by show w.heap.size ≤ w.heap.size + 1 + 1 + 1; omega) _).setCell (by show w.heap.size ≤ w.heap.size + 1 + 1 + 1; omega) _).setCell (by show w.heap.size ≤ w.heap.size + 1 + 1 + 1; omega) _
   rw [← hwS]
   have kF := bS.all3
   refine bodyPost_ret (v := .tuple #[.agg #[.int .i64 0, .int .i64 0, .slice none 0 0], .int .i64 TE]) (by simp [results, Tryz.results80, go_sem, kF]) rfl ⟨⟨0, 0, none, 0, 0, by rw [HX.out.1], Res.zero _ _ _ _ _ (by rw [HX.out.1]; exact HX.out.2)⟩, hS⟩
 have hz0 : TE = 0 := Classical.not_not.1 hz
 have hE0 : E = SE := by rw [HE.out, if_pos hz0]
 obtain ⟨l, hl⟩ := Hsp.out hz0
 have hwl := Hwd.out l hl
 have hwo2 := fun wx hL => Hwo.out wx l hL hl
 rw [← hwl] at hwo2
 have Hwo2 := Lib.hid hwo2; have Hl := Lib.hid hl; have Hwl := Lib.hid hwl; have HE0 := Lib.hid hE0
 have HL2 := Lib.hid (HL.out.bl hb2)
 have k1 := (w11.bl hb2).all9
 have k2 := (w12.bl hb2).all4
 have k3 := (w13.bl hb2).all5
 subst hz0
 have hw2 : w2.heap.size ≤ w2.heap.size := Nat.le_refl _
 clear hwo2 hl hwl hE0 hz hb2
 go_upto_region 5 with fail
 go_cut [9] from 24 to 31 (fun s wc => ∃ q, s = .pointer (some ⟨q, 0, none⟩) ∧ Blk wc q 24 #[.int .i64 WW, .int .i64 ht, .slice none 0 0] ∧ Bl w2 wc)
 case first =>
  refine wp_region_tree (Bl w2) [(true, 0), (true, 1), (true, 2), (true, 4), (true, 5)] (.one 3 [(true, 6)] (.one 7 [] (.one 8 [] .none .none) .none) (.one 7 [] (.one 3 [(true, 6)] (.one 8 [] .none .none) .none) .none)) (by kernel_rfl) (by kernel_rfl) (by kernel_rfl) (by kernel_rfl) (Bl.drew (Bl.refl w2)) ?_
  obtain ⟨wxd, hwxd⟩ : ∃ wzz, wzz = (w2).drew := ⟨_, rfl⟩
  have HBD : Bl w2 wxd := by rw [hwxd]; exact Bl.drew (Bl.refl w2)
  rw [← hwxd]
  clear hwxd
  iterate 5
   apply FlowS.calm2 _ _ rfl rfl
   · intro w' hb' K' hK'
     obtain ⟨hc', hf'⟩ := hb'.rule
     go_simp
     try go_ints
     exact hK'
   · intro K' hK'
     simp only [sqA]
     exact hK'
  refine Tree.fork ?_
  refine Tree.part rfl ?_ ?_
  · skip
    go_wp2_with fail
    refine (Hwo2.out _ (HL2.out.bl HBD)).mono ?_
    rintro e wx3 ⟨rfl, bb3⟩
    have HB3 : Bl w2 wx3 := (HBD).trans bb3
    go_wp2_with fail
    refine ⟨HB3, ?_⟩
    iterate 1
     apply FlowS.calm2 _ _ rfl rfl
     · intro w' hb' K' hK'
       obtain ⟨hc', hf'⟩ := hb'.rule
       go_simp
       try go_ints
       exact hK'
     · intro K' hK'
       simp only [sqA]
       exact hK'
    refine Tree.fork ?_
    refine Tree.part rfl ?_ ?_
    · skip
      go_wp2_with fail
      obtain ⟨wx7, hwx7⟩ : ∃ wzz, wzz = (wx3).alloc (.cells #[.int .i64 0, .int .i64 0, .slice none 0 0] 24) := ⟨_, rfl⟩
      have bk7 : Blk wx7 (wx3).heap.size 24 #[.int .i64 0, .int .i64 0, .slice none 0 0] := by rw [hwx7]; exact Blk.new _ _ _
      have bb7 : Bl wx3 wx7 := by rw [hwx7]; exact (Bl.refl _).alloc _
      rw [← hwx7]
      clear hwx7
      have HB7 : Bl w2 wx7 := (HB3).trans bb7
      refine ⟨HB7, ?_⟩
      refine Tree.fork ?_
      refine Tree.last rfl ?_ ?_
      · skip
        have kst := (bk7).all3
        go_wp2_with fail
        obtain ⟨wx8, hwx8⟩ : ∃ wzz, wzz = (((wx7.setCell ⟨wx3.heap.size, 0, none⟩ (.int .i64 WW)).setCell ⟨wx3.heap.size, 1, none⟩ (.int .i64 ht)).setCell ⟨wx3.heap.size, 2, none⟩ (.slice none 0 0)) := ⟨_, rfl⟩
        rw [← hwx8]
        have bk7_8 : Blk wx8 wx3.heap.size 24 #[.int .i64 WW, .int .i64 ht, .slice none 0 0] := by rw [hwx8]; exact ((((bk7).set_ 0 (.int .i64 WW)).set_ 1 (.int .i64 ht)).set_ 2 (.slice none 0 0))
        have HB8 : Bl w2 wx8 := by rw [hwx8]; exact ((((HB7).setCell (by exact HB3.le) _).setCell (by exact HB3.le) _).setCell (by exact HB3.le) _)
        clear kst hwx8
        refine ⟨HB8, ?_⟩
        refine FlowS.done ?_
        go_wp2_with fail
        go_meet
        case rel => exact ⟨_, rfl, bk7_8, HB8⟩
      exact Tree.nil
    exact Tree.nil
  refine Tree.part rfl ?_ ?_
  · skip
    go_wp2_with fail
    obtain ⟨wx7, hwx7⟩ : ∃ wzz, wzz = (wxd).alloc (.cells #[.int .i64 0, .int .i64 0, .slice none 0 0] 24) := ⟨_, rfl⟩
    have bk7 : Blk wx7 (wxd).heap.size 24 #[.int .i64 0, .int .i64 0, .slice none 0 0] := by rw [hwx7]; exact Blk.new _ _ _
    have bb7 : Bl wxd wx7 := by rw [hwx7]; exact (Bl.refl _).alloc _
    rw [← hwx7]
    clear hwx7
    have HB7 : Bl w2 wx7 := (HBD).trans bb7
    refine ⟨HB7, ?_⟩
    refine Tree.fork ?_
    refine Tree.part rfl ?_ ?_
    · skip
      go_wp2_with fail
      refine (Hwo2.out _ (HL2.out.bl HB7)).mono ?_
      rintro e wx3 ⟨rfl, bb3⟩
      have HB3 : Bl w2 wx3 := (HB7).trans bb3
      have bk7_3 := (bk7).bl bb3
      go_wp2_with fail
      refine ⟨HB3, ?_⟩
      iterate 1
       apply FlowS.calm2 _ _ rfl rfl
       · intro w' hb' K' hK'
         obtain ⟨hc', hf'⟩ := hb'.rule
         go_simp
         try go_ints
         exact hK'
       · intro K' hK'
         simp only [sqA]
         exact hK'
      refine Tree.fork ?_
      refine Tree.last rfl ?_ ?_
      · skip
        have kst := (bk7_3).all3
        go_wp2_with fail
        obtain ⟨wx8, hwx8⟩ : ∃ wzz, wzz = (((wx3.setCell ⟨wxd.heap.size, 0, none⟩ (.int .i64 WW)).setCell ⟨wxd.heap.size, 1, none⟩ (.int .i64 ht)).setCell ⟨wxd.heap.size, 2, none⟩ (.slice none 0 0)) := ⟨_, rfl⟩
        rw [← hwx8]
        have bk7_8 : Blk wx8 wxd.heap.size 24 #[.int .i64 WW, .int .i64 ht, .slice none 0 0] := by rw [hwx8]; exact ((((bk7_3).set_ 0 (.int .i64 WW)).set_ 1 (.int .i64 ht)).set_ 2 (.slice none 0 0))
        have HB8 : Bl w2 wx8 := by rw [hwx8]; exact ((((HB3).setCell (by exact HBD.le) _).setCell (by exact HBD.le) _).setCell (by exact HBD.le) _)
        clear kst hwx8
        refine ⟨HB8, ?_⟩
        refine FlowS.done ?_
        go_wp2_with fail
        go_meet
        case rel => exact ⟨_, rfl, bk7_8, HB8⟩
      exact Tree.nil
    exact Tree.nil
  exact Tree.nil
 case rest =>
 rename World => w3
 obtain ⟨q0, rfl, bq, hb3⟩ := hcut
 have k4 := bq.all3
 have hb3' := Hb2.out.trans hb3
 have Hb3 := Lib.hid hb3'
 have hle3 := hb3'.le
 clear hb3 hb3' k1 k2 k3
 go_upto_region 7 with (go_at_call 42; refine (Hse.out _).mono ?_; rintro e w4 ⟨rfl, hb4⟩)
 have Hb4 := Lib.hid (Hb3.out.trans hb4)
 have hle4 := hb4.le
 have B4 := Lib.hid (w14.bl Hb4.out)
 clear hb4
 by_cases hz : SE ≠ 0
 · have hq : (SE != 0) = true := by simp [hz]
   have HX := Lib.hid (show E = SE ∧ SE ≠ 0 from ⟨HE0.out, hz⟩)
   have k5 := B4.out.all3
   clear hz
   go_wp2_with fail
   obtain ⟨wS, hwS⟩ : ∃ wzz, wzz = ((w4.setCell ⟨w.heap.size + 1 + 1 + 1, 0, none⟩ (.int .i64 0)).setCell ⟨w.heap.size + 1 + 1 + 1, 1, none⟩ (.int .i64 0)).setCell ⟨w.heap.size + 1 + 1 + 1, 2, none⟩ (.slice none 0 0) := ⟨_, rfl⟩
   have bS : Blk wS (w.heap.size + 1 + 1 + 1) 24 #[.int .i64 0, .int .i64 0, .slice none 0 0] := by rw [hwS]; exact ((B4.out.set_ 0 _).set_ 1 _).set_ 2 _
   have hS : Bl w wS := by rw [hwS]; exact (((HW1b.out.trans Hb4.out).setCell (by show w.heap.size ≤ w.heap.size + 1 + 1 + 1; omega) _).setCell (by show w.heap.size ≤ w.heap.size + 1 + 1 + 1; omega) _).setCell (by show w.heap.size ≤ w.heap.size + 1 + 1 + 1; omega) _
   rw [← hwS]
   have kF := bS.all3
   refine bodyPost_ret (v := .tuple #[.agg #[.int .i64 0, .int .i64 0, .slice none 0 0], .int .i64 SE]) (by simp [results, Tryz.results80, go_sem, kF]) rfl ⟨⟨0, 0, none, 0, 0, by rw [HX.out.1], Res.zero _ _ _ _ _ (by rw [HX.out.1]; exact HX.out.2)⟩, hS⟩
 have hz0 : SE = 0 := Classical.not_not.1 hz
 have hE1 : E = 0 := HE0.out.trans hz0
 have hw4 : WW ≤ 4000 := by have := sizeErr_zero (HSE.out.symm.trans hz0); rw [HWW.out]; omega
 have hcall := Hso.out w4 l WW (HL.out.bl Hb4.out) Hl.out Hwl.out hw4
 rw [← Hsc.out l Hl.out] at hcall
 have Hcall := Lib.hid hcall
 have k1 := (w11.bl Hb4.out).all9
 have k2 := (w12.bl Hb4.out).all4
 have k3 := (w13.bl Hb4.out).all5
 subst hz0
 have HE1 := Lib.hid hE1
 clear hcall hz hE1 hw4 k4
 go_upto_region 9 with fail
 go_wp2_with (go_at_call 150; refine Hcall.out.mono ?_; rintro e w5 ⟨R, rc, rfl, hr5, hn5, hb5⟩; have B5 := Lib.hid (B4.out.bl hb5); have k5 := B5.out.all3; have Hb5 := Lib.hid (Hb4.out.trans hb5); have Hr5 := Lib.hid hr5; have Hn5 := Lib.hid hn5; clear hr5 hn5 hb5)
 have hfar : ∀ ad, R = some ad → ad.block ≠ w.heap.size + 1 + 1 + 1 := fun ad h => by have := Hn5.out ad h; omega
 obtain ⟨wS, hwS⟩ : ∃ wzz, wzz = ((w5.setCell ⟨w.heap.size + 1 + 1 + 1, 0, none⟩ (.int .i64 WW)).setCell ⟨w.heap.size + 1 + 1 + 1, 1, none⟩ (.int .i64 ht)).setCell ⟨w.heap.size + 1 + 1 + 1, 2, none⟩ (.slice R (WW * ht) rc) := ⟨_, rfl⟩
 have bS : Blk wS (w.heap.size + 1 + 1 + 1) 24 #[.int .i64 WW, .int .i64 ht, .slice R (WW * ht) rc] := by rw [hwS]; exact ((B5.out.set_ 0 _).set_ 1 _).set_ 2 _
 have hS : Bl w wS := by rw [hwS]; exact (((HW1b.out.trans Hb5.out).setCell (by show w.heap.size ≤ w.heap.size + 1 + 1 + 1; omega) _).setCell (by show w.heap.size ≤ w.heap.size + 1 + 1 + 1; omega) _).setCell (by show w.heap.size ≤ w.heap.size + 1 + 1 + 1; omega) _
 have rS := by have h := ((Hr5.out.far2 (p := ⟨w.heap.size + 1 + 1 + 1, 0, none⟩) hfar (.int .i64 WW)).far2 (p := ⟨w.heap.size + 1 + 1 + 1, 1, none⟩) hfar (.int .i64 ht)).far2 (p := ⟨w.heap.size + 1 + 1 + 1, 2, none⟩) hfar (.slice R (WW * ht) rc); rw [← hwS] at h; exact h
 rw [← hwS]
 have kF := bS.all3
 refine bodyPost_ret (v := .tuple #[.agg #[.int .i64 WW, .int .i64 ht, .slice R (WW * ht) rc], .int .i64 0]) (by simp [results, Tryz.results80, go_sem, kF]) rfl ⟨⟨_, _, _, _, _, by rw [HE1.out], Res.page HE1.out rS (fun ad h => by have := Hn5.out ad h; omega)⟩, hS⟩

end Go.Proofs.YthobmednnocklaaGreatDoor


/-! bedref2.drawn of a code, and of both kinds. -/
namespace Go.Proofs.YthobmednnocklaaGreatDoor
open Go.RowKit Go.Shelf

theorem made_head {l cs : List UInt8} (hm : madeOf l cs = true) (n : Nat) : madeOf (l.take n) cs = true := by
 unfold madeOf at hm ⊢
 rw [List.all_eq_true] at hm
 rw [List.all_eq_true]
 exact fun b hb => hm b (List.mem_of_mem_take hb)
set_option maxRecDepth 100000 in
set_option maxHeartbeats 8000000 in
theorem drawnC_any (x : Fld) (v : Vlu) (nm : List UInt8) (ht gap sp : Nat) (adl : Addr) (c : Nat) (ls : List Ltr) (w : World) (h : Nat) (hk : x.kind ≠ 1) (htl : v.text.length ≤ 1048576) (hT : SpOk w) (hbH : x.box.H = (h : Int)) (hh : h ≤ 4000) :
 Calls Tryz.prog 80 #[x.val, v.val, .agg #[.string ⟨nm.toArray⟩, .int .i64 ht, .int .i64 gap, .int .i64 sp, .slice (some adl) ls.length c]] w fun e w' => DrawnRes w.heap.size (codeErr v.text) (codeM v.text).length h (grid (codeM v.text).length h (drawF (codeM v.text) 1 0)) e w' ∧ Bl w w' := by
 have hdg := fun wx => digitsR_any v.text 13 wx (by omega) (by decide)
 have hle := fun wx => letterError_any v.text wx (by omega)
 have hok := fun (e : codeErr v.text = 0) => codeM_ok e
 obtain ⟨CE, hCE⟩ : ∃ y, y = codeErr v.text := ⟨_, rfl⟩
 obtain ⟨M, hM⟩ : ∃ y, y = codeM v.text := ⟨_, rfl⟩
 have hdo := fun wx (hl : M.length ≤ 4000) => show Calls Tryz.prog 156 #[.string ⟨M.toArray⟩, .int .i64 1, .int .i64 h, .int .i64 0] wx fun e w' => ∃ R rc, e = .returned (.agg #[.int .i64 (M.length : Nat), .int .i64 h, .slice R (M.length * h) rc]) ∧ Reads w' 1 R (M.length * h) ((grid M.length h (drawF M 1 0)).map .bool) ∧ (∀ ad, R = some ad → wx.heap.size + 4 ≤ ad.block) ∧ Bl wx w' from
  drawOf_any M 1 h 0 M.length wx (by decide) (by decide) hl (by omega) hl hh
 rw [← hCE, ← hM] at hok ⊢
 have q : (x.kind == 1) = false := by simpa using hk
 have HbH := Lib.hid hbH
 obtain ⟨TL, hTL⟩ : ∃ y, y = v.text := ⟨_, rfl⟩
 rw [← hTL] at hCE hM hdg hle htl
 have HTL := Lib.hid hTL
 clear hTL hbH hk
 let w1 := ((((w).alloc (.cells #[.string ⟨x.name.toArray⟩, .int .i64 x.kind, .int .i64 x.box.X, .int .i64 x.box.Y, .int .i64 x.box.W, .int .i64 x.box.H, .slice x.M x.marks.length x.mc, .int .i64 x.most, .bool x.needed] 136)).alloc (.cells #[.string ⟨v.field.toArray⟩, .string ⟨v.text.toArray⟩, .slice v.M v.marks.length v.mc, .int .i64 v.sure] 132)).alloc (.cells #[.string ⟨nm.toArray⟩, .int .i64 ht, .int .i64 gap, .int .i64 sp, .slice (some adl) ls.length c] 29)).alloc (.cells #[.int .i64 0, .int .i64 0, .slice none 0 0] 24)
 have w1b : Bl w w1 := ((((Bl.refl w).alloc _).alloc _).alloc _).alloc _
 have w11 : Blk w1 (w.heap.size) 136 #[.string ⟨x.name.toArray⟩, .int .i64 x.kind, .int .i64 x.box.X, .int .i64 x.box.Y, .int .i64 x.box.W, .int .i64 x.box.H, .slice x.M x.marks.length x.mc, .int .i64 x.most, .bool x.needed] := by
  have h0 := Blk.new (w) 136 #[.string ⟨x.name.toArray⟩, .int .i64 x.kind, .int .i64 x.box.X, .int .i64 x.box.Y, .int .i64 x.box.W, .int .i64 x.box.H, .slice x.M x.marks.length x.mc, .int .i64 x.most, .bool x.needed]
  exact (((h0.alloc _).alloc _).alloc _)
 have w12 : Blk w1 (w.heap.size + 1) 132 #[.string ⟨v.field.toArray⟩, .string ⟨v.text.toArray⟩, .slice v.M v.marks.length v.mc, .int .i64 v.sure] := by
  have h0 := Blk.new ((w).alloc (.cells #[.string ⟨x.name.toArray⟩, .int .i64 x.kind, .int .i64 x.box.X, .int .i64 x.box.Y, .int .i64 x.box.W, .int .i64 x.box.H, .slice x.M x.marks.length x.mc, .int .i64 x.most, .bool x.needed] 136)) 132 #[.string ⟨v.field.toArray⟩, .string ⟨v.text.toArray⟩, .slice v.M v.marks.length v.mc, .int .i64 v.sure]
  simp only [World.size_alloc] at h0
  exact ((h0.alloc _).alloc _)
 have w13 : Blk w1 (w.heap.size + 1 + 1) 29 #[.string ⟨nm.toArray⟩, .int .i64 ht, .int .i64 gap, .int .i64 sp, .slice (some adl) ls.length c] := by
  have h0 := Blk.new (((w).alloc (.cells #[.string ⟨x.name.toArray⟩, .int .i64 x.kind, .int .i64 x.box.X, .int .i64 x.box.Y, .int .i64 x.box.W, .int .i64 x.box.H, .slice x.M x.marks.length x.mc, .int .i64 x.most, .bool x.needed] 136)).alloc (.cells #[.string ⟨v.field.toArray⟩, .string ⟨v.text.toArray⟩, .slice v.M v.marks.length v.mc, .int .i64 v.sure] 132)) 29 #[.string ⟨nm.toArray⟩, .int .i64 ht, .int .i64 gap, .int .i64 sp, .slice (some adl) ls.length c]
  simp only [World.size_alloc] at h0
  exact (h0.alloc _)
 have w14 : Blk w1 (w.heap.size + 1 + 1 + 1) 24 #[.int .i64 0, .int .i64 0, .slice none 0 0] := by
  have h0 := Blk.new ((((w).alloc (.cells #[.string ⟨x.name.toArray⟩, .int .i64 x.kind, .int .i64 x.box.X, .int .i64 x.box.Y, .int .i64 x.box.W, .int .i64 x.box.H, .slice x.M x.marks.length x.mc, .int .i64 x.most, .bool x.needed] 136)).alloc (.cells #[.string ⟨v.field.toArray⟩, .string ⟨v.text.toArray⟩, .slice v.M v.marks.length v.mc, .int .i64 v.sure] 132)).alloc (.cells #[.string ⟨nm.toArray⟩, .int .i64 ht, .int .i64 gap, .int .i64 sp, .slice (some adl) ls.length c] 29)) 24 #[.int .i64 0, .int .i64 0, .slice none 0 0]
  simp only [World.size_alloc] at h0
  exact h0
 have sz1 : w1.heap.size = w.heap.size + 4 := by simp [w1]
 have Hdg := Lib.hid (hdg w1); have Hle := Lib.hid hle; have Hdo := Lib.hid hdo; have HOk := Lib.hid hok; have HCE := Lib.hid hCE; have HM := Lib.hid hM; have HSp := Lib.hid (hT.bl w1b)
 have k1 := w11.all9
 have k2 := w12.all4
 rw [← HTL.out] at k2
 rw [HbH.out] at k1
 have HW1b := Lib.hid w1b
 unfold Fld.val Vlu.val
 clear hdg hle hdo hok hCE hM hT w1b
 go_enter Tryz.func80, Tryz.ntmps80
 go_upto_region 1 with fail
 rw [show ((((w.alloc (.cells #[.string ⟨x.name.toArray⟩, .int .i64 x.kind, .int .i64 x.box.X, .int .i64 x.box.Y, .int .i64 x.box.W, .int .i64 x.box.H, .slice x.M x.marks.length x.mc, .int .i64 x.most, .bool x.needed] 136)).alloc (.cells #[.string ⟨v.field.toArray⟩, .string ⟨v.text.toArray⟩, .slice v.M v.marks.length v.mc, .int .i64 v.sure] 132)).alloc (.cells #[.string ⟨nm.toArray⟩, .int .i64 ht, .int .i64 gap, .int .i64 sp, .slice (some adl) ls.length c] 29)).alloc (.cells #[.int .i64 0, .int .i64 0, .slice none 0 0] 24)) = w1 from rfl]
 clear_value w1
 go_upto_region 11 with fail
 cases hd : digB TL 13 with
 | true =>
  rw [hd] at Hdg
  obtain ⟨hlen, hmd⟩ : TL.length = 13 ∧ madeOf TL digits10 = true := by
   unfold digB at hd
   simpa using hd
  have hlenI : (TL.length : Int) = 13 := by omega
  have Hco := Lib.hid (fun wx => checkOfR_any (TL.take 12) wx (by rw [List.length_take]; omega) (made_head hmd 12))
  have hex12 : (⟨TL.toArray⟩ : ByteArray).extract 0 12 = ⟨(TL.take 12).toArray⟩ := slice_ab TL 0 12
  obtain ⟨b12, hg12, hb12, hd9⟩ := digit_byte hmd (i := 12) (by omega)
  obtain ⟨kb1, kb2⟩ := bytes_at hg12
  have Heo := Lib.hid (fun wx h => eanOf_any TL wx hlen hmd h)
  have hCEe : CE = if checkOf (TL.take 12) = digOf TL 12 then 0 else 14 := by rw [HCE.out]; unfold codeErr; rw [if_pos hd]; unfold eanErr; rw [if_pos hd]
  have hMe : M = eanOf TL := by rw [HM.out]; unfold codeM; rw [if_pos hd]
  obtain ⟨ck, hckk⟩ : ∃ ck, ck = checkOf (TL.take 12) := ⟨_, rfl⟩
  obtain ⟨d12, hd12e⟩ : ∃ d, d = digOf TL 12 := ⟨_, rfl⟩
  rw [← hckk] at Hco hCEe
  rw [← hd12e] at hb12 hd9 hCEe
  rw [← hMe] at Heo
  have HCEe := Lib.hid hCEe
  clear hd hlen hmd hg12 hckk hd12e hCEe hMe
  go_upto_region 12 with (go_at_call 151; refine Hdg.out.mono ?_; rintro e w2 ⟨rfl, hb2⟩)
  have Hb2 := Lib.hid hb2
  have k1 := (w11.bl hb2).all9
  rw [HbH.out] at k1
  have k2 := (w12.bl hb2).all4
  rw [← HTL.out] at k2
  clear hb2
  by_cases hq : ck = d12
  · have HC0 := Lib.hid (show CE = 0 by rw [HCEe.out, if_pos hq])
    have Hml := Lib.hid (HOk.out HC0.out).2.2
    subst hq
    refine wp_region_flow [(true, 0), (true, 1), (true, 2), (true, 3), (true, 4), (true, 5), (true, 6), (true, 7), (false, 8), (true, 9)] (fun _ => false) (by kernel_rfl) (by kernel_rfl) (by kernel_rfl) (by kernel_rfl) ?_
    iterate 8
     apply Flow.calm2 _ _ rfl rfl
     · intro w' hb' K' hK'
       obtain ⟨hc', hf'⟩ := hb'.rule
       go_simp
       try go_ints
       exact hK'
     · intro K' hK'
       simp only [sqA]
       exact hK'
    apply Flow.move rfl
    go_wp2_with fail
    refine (Hco.out _).mono ?_
    rintro e w3 ⟨rfl, HB1⟩
    have Hb3 := Lib.hid (Hb2.out.trans (Bl.ofDrew HB1))
    have k2 := (w12.bl Hb3.out).all4
    rw [← HTL.out] at k2
    have k1 := (w11.bl Hb3.out).all9
    rw [HbH.out] at k1
    go_wp2_with fail
    refine ⟨fun _ => (by first | exact HB1 | exact Bl.refl _), ?_⟩
    iterate 1
     apply Flow.calm2 _ _ rfl rfl
     · intro w' hb' K' hK'
       obtain ⟨hc', hf'⟩ := hb'.rule
       go_simp
       try go_ints
       exact hK'
     · intro K' hK'
       simp only [sqA]
       exact hK'
    refine Flow.done ?_
    clear HB1
    go_upto_region 19 with (go_at_call 153; refine (Heo.out _ (HSp.out.bl Hb3.out)).mono ?_; rintro e w4 ⟨rfl, hb4⟩)
    have Hb4 := Lib.hid (Hb3.out.trans hb4)
    have k1 := (w11.bl Hb4.out).all9
    rw [HbH.out] at k1
    clear hb4 k2
    have B4 := Lib.hid (w14.bl Hb4.out)
    have hle4 := Hb4.out.le
    have Hcall2 := Lib.hid (Hdo.out w4 Hml.out)
    go_upto_region 19 with fail
    go_wp2_with (go_at_call 156; refine Hcall2.out.mono ?_; rintro e w5 ⟨R, rc, rfl, hr5, hn5, hb5⟩; have B5 := Lib.hid (B4.out.bl hb5); have k5 := B5.out.all3; have Hb5 := Lib.hid (Hb4.out.trans hb5); have Hr5 := Lib.hid hr5; have Hn5 := Lib.hid hn5; clear hr5 hn5 hb5)
    have hfar : ∀ ad, R = some ad → ad.block ≠ w.heap.size + 1 + 1 + 1 := fun ad h => by have := Hn5.out ad h; omega
    obtain ⟨wS, hwS⟩ : ∃ wzz, wzz = ((w5.setCell ⟨w.heap.size + 1 + 1 + 1, 0, none⟩ (.int .i64 M.length)).setCell ⟨w.heap.size + 1 + 1 + 1, 1, none⟩ (.int .i64 h)).setCell ⟨w.heap.size + 1 + 1 + 1, 2, none⟩ (.slice R (M.length * h) rc) := ⟨_, rfl⟩
    have bS : Blk wS (w.heap.size + 1 + 1 + 1) 24 #[.int .i64 M.length, .int .i64 h, .slice R (M.length * h) rc] := by rw [hwS]; exact ((B5.out.set_ 0 _).set_ 1 _).set_ 2 _
    have hS : Bl w wS := by rw [hwS]; exact (((HW1b.out.trans Hb5.out).setCell (by show w.heap.size ≤ w.heap.size + 1 + 1 + 1; omega) _).setCell (by show w.heap.size ≤ w.heap.size + 1 + 1 + 1; omega) _).setCell (by show w.heap.size ≤ w.heap.size + 1 + 1 + 1; omega) _
    have rS := by have h := ((Hr5.out.far2 (p := ⟨w.heap.size + 1 + 1 + 1, 0, none⟩) hfar (.int .i64 M.length)).far2 (p := ⟨w.heap.size + 1 + 1 + 1, 1, none⟩) hfar (.int .i64 h)).far2 (p := ⟨w.heap.size + 1 + 1 + 1, 2, none⟩) hfar (.slice R (M.length * h) rc); rw [← hwS] at h; exact h
    rw [← hwS]
    have kF := bS.all3
    refine bodyPost_ret (v := .tuple #[.agg #[.int .i64 M.length, .int .i64 h, .slice R (M.length * h) rc], .int .i64 0]) (by simp [results, Tryz.results80, go_sem, kF]) rfl ⟨⟨_, _, _, _, _, by rw [HC0.out], Res.page HC0.out rS (fun ad h => by have := Hn5.out ad h; omega)⟩, hS⟩
  · have HC0 := Lib.hid (show CE = 14 by rw [HCEe.out, if_neg hq])
    have hne : ((48 : Int) + (d12 : Int) - 48 != (ck : Int)) = true := by
     rw [show (48 : Int) + (d12 : Int) - 48 = (d12 : Int) by omega]
     simp
     exact fun e => hq (by omega)
    clear hq
    refine wp_region_flow [(true, 0), (true, 1), (true, 2), (true, 3), (true, 4), (true, 5), (true, 6), (true, 7), (false, 8), (true, 9)] (fun _ => false) (by kernel_rfl) (by kernel_rfl) (by kernel_rfl) (by kernel_rfl) ?_
    iterate 8
     apply Flow.calm2 _ _ rfl rfl
     · intro w' hb' K' hK'
       obtain ⟨hc', hf'⟩ := hb'.rule
       go_simp
       try go_ints
       exact hK'
     · intro K' hK'
       simp only [sqA]
       exact hK'
    apply Flow.move rfl
    go_wp2_with fail
    refine (Hco.out _).mono ?_
    rintro e w3 ⟨rfl, HB1⟩
    have Hb3 := Lib.hid (Hb2.out.trans (Bl.ofDrew HB1))
    go_wp2_with fail
    refine ⟨fun _ => (by first | exact HB1 | exact Bl.refl _), ?_⟩
    iterate 1
     apply Flow.calm2 _ _ rfl rfl
     · intro w' hb' K' hK'
       obtain ⟨hc', hf'⟩ := hb'.rule
       go_simp
       try go_ints
       exact hK'
     · intro K' hK'
       simp only [sqA]
       exact hK'
    refine Flow.done ?_
    clear HB1
    have B4 := Lib.hid (w14.bl Hb3.out)
    have k4 := B4.out.all3
    have hle3 := Hb3.out.le
    go_wp2_with fail
    obtain ⟨wS, hwS⟩ : ∃ wzz, wzz = ((w3.setCell ⟨w.heap.size + 1 + 1 + 1, 0, none⟩ (.int .i64 0)).setCell ⟨w.heap.size + 1 + 1 + 1, 1, none⟩ (.int .i64 0)).setCell ⟨w.heap.size + 1 + 1 + 1, 2, none⟩ (.slice none 0 0) := ⟨_, rfl⟩
    have bS : Blk wS (w.heap.size + 1 + 1 + 1) 24 #[.int .i64 0, .int .i64 0, .slice none 0 0] := by rw [hwS]; exact ((B4.out.set_ 0 _).set_ 1 _).set_ 2 _
    have hS : Bl w wS := by rw [hwS]; exact (((HW1b.out.trans Hb3.out).setCell (by show w.heap.size ≤ w.heap.size + 1 + 1 + 1; omega) _).setCell (by show w.heap.size ≤ w.heap.size + 1 + 1 + 1; omega) _).setCell (by show w.heap.size ≤ w.heap.size + 1 + 1 + 1; omega) _
    rw [← hwS]
    have kF := bS.all3
    refine bodyPost_ret (v := .tuple #[.agg #[.int .i64 0, .int .i64 0, .slice none 0 0], .int .i64 14]) (by simp [results, Tryz.results80, go_sem, kF]) rfl ⟨⟨0, 0, none, 0, 0, by rw [HC0.out], Res.zero _ _ _ _ _ (by rw [HC0.out]; decide)⟩, hS⟩
 | false =>
  rw [hd] at Hdg
  have Hco := Lib.hid (fun wx h40 hok hT => code39Of_any TL wx h40 hok hT)
  have HMe := Lib.hid (show M = code39 TL by rw [HM.out]; unfold codeM; rw [if_neg (by rw [hd]; decide)])
  obtain ⟨LE, hLE⟩ : ∃ y, y = letErr TL := ⟨_, rfl⟩
  have HC0 := Lib.hid (show CE = LE by rw [HCE.out, hLE]; unfold codeErr; rw [if_neg (by rw [hd]; decide)])
  rw [← hLE] at Hle
  have HLE := Lib.hid hLE
  clear hd hLE
  go_upto_region 15 with (go_at_call 151; refine Hdg.out.mono ?_; rintro e w2 ⟨rfl, hb2⟩)
  have Hb2 := Lib.hid hb2
  have k1 := (w11.bl hb2).all9
  rw [HbH.out] at k1
  have k2 := (w12.bl hb2).all4
  rw [← HTL.out] at k2
  clear hb2
  go_upto_region 16 with (go_at_call 154; refine (Hle.out _).mono ?_; rintro e w3 ⟨rfl, hb3⟩)
  have Hb3 := Lib.hid (Hb2.out.trans hb3)
  have k1 := (w11.bl Hb3.out).all9
  rw [HbH.out] at k1
  have k2 := (w12.bl Hb3.out).all4
  rw [← HTL.out] at k2
  have hle3 := Hb3.out.le
  clear hb3
  by_cases hz : LE ≠ 0
  · have hq : (LE != 0) = true := by simp [hz]
    have HX := Lib.hid (show CE = LE ∧ LE ≠ 0 from ⟨HC0.out, hz⟩)
    have B4 := Lib.hid (w14.bl Hb3.out)
    have k4 := B4.out.all3
    clear hz k1 k2
    go_wp2_with fail
    obtain ⟨wS, hwS⟩ : ∃ wzz, wzz = ((w3.setCell ⟨w.heap.size + 1 + 1 + 1, 0, none⟩ (.int .i64 0)).setCell ⟨w.heap.size + 1 + 1 + 1, 1, none⟩ (.int .i64 0)).setCell ⟨w.heap.size + 1 + 1 + 1, 2, none⟩ (.slice none 0 0) := ⟨_, rfl⟩
    have bS : Blk wS (w.heap.size + 1 + 1 + 1) 24 #[.int .i64 0, .int .i64 0, .slice none 0 0] := by rw [hwS]; exact ((B4.out.set_ 0 _).set_ 1 _).set_ 2 _
    have hS : Bl w wS := by rw [hwS]; exact (((HW1b.out.trans Hb3.out).setCell (by show w.heap.size ≤ w.heap.size + 1 + 1 + 1; omega) _).setCell (by show w.heap.size ≤ w.heap.size + 1 + 1 + 1; omega) _).setCell (by show w.heap.size ≤ w.heap.size + 1 + 1 + 1; omega) _
    rw [← hwS]
    have kF := bS.all3
    refine bodyPost_ret (v := .tuple #[.agg #[.int .i64 0, .int .i64 0, .slice none 0 0], .int .i64 LE]) (by simp [results, Tryz.results80, go_sem, kF]) rfl ⟨⟨0, 0, none, 0, 0, by rw [HX.out.1], Res.zero _ _ _ _ _ (by rw [HX.out.1]; exact HX.out.2)⟩, hS⟩
  have hz0 : LE = 0 := Classical.not_not.1 hz
  have hq : (LE != 0) = false := by simp [hz0]
  obtain ⟨h40, hok⟩ := letErr_ok (HLE.out.symm.trans hz0)
  have Hcall := Lib.hid (Hco.out w3 h40 hok (HSp.out.bl Hb3.out))
  rw [← HMe.out] at Hcall
  have Hml := Lib.hid (HOk.out (HC0.out.trans hz0)).2.2
  have HC1 := Lib.hid (HC0.out.trans hz0)
  clear hz h40 hok
  subst hz0
  clear HC0
  have HC0 := HC1
  go_upto_region 19 with (go_at_call 155; refine Hcall.out.mono ?_; rintro e w4 ⟨rfl, hb4⟩)
  have Hb4 := Lib.hid (Hb3.out.trans hb4)
  have k1 := (w11.bl Hb4.out).all9
  rw [HbH.out] at k1
  clear hb4 k2
  have B4 := Lib.hid (w14.bl Hb4.out)
  have hle4 := Hb4.out.le
  have Hcall2 := Lib.hid (Hdo.out w4 Hml.out)
  go_upto_region 19 with fail
  go_wp2_with (go_at_call 156; refine Hcall2.out.mono ?_; rintro e w5 ⟨R, rc, rfl, hr5, hn5, hb5⟩; have B5 := Lib.hid (B4.out.bl hb5); have k5 := B5.out.all3; have Hb5 := Lib.hid (Hb4.out.trans hb5); have Hr5 := Lib.hid hr5; have Hn5 := Lib.hid hn5; clear hr5 hn5 hb5)
  have hfar : ∀ ad, R = some ad → ad.block ≠ w.heap.size + 1 + 1 + 1 := fun ad h => by have := Hn5.out ad h; omega
  obtain ⟨wS, hwS⟩ : ∃ wzz, wzz = ((w5.setCell ⟨w.heap.size + 1 + 1 + 1, 0, none⟩ (.int .i64 M.length)).setCell ⟨w.heap.size + 1 + 1 + 1, 1, none⟩ (.int .i64 h)).setCell ⟨w.heap.size + 1 + 1 + 1, 2, none⟩ (.slice R (M.length * h) rc) := ⟨_, rfl⟩
  have bS : Blk wS (w.heap.size + 1 + 1 + 1) 24 #[.int .i64 M.length, .int .i64 h, .slice R (M.length * h) rc] := by rw [hwS]; exact ((B5.out.set_ 0 _).set_ 1 _).set_ 2 _
  have hS : Bl w wS := by rw [hwS]; exact (((HW1b.out.trans Hb5.out).setCell (by show w.heap.size ≤ w.heap.size + 1 + 1 + 1; omega) _).setCell (by show w.heap.size ≤ w.heap.size + 1 + 1 + 1; omega) _).setCell (by show w.heap.size ≤ w.heap.size + 1 + 1 + 1; omega) _
  have rS := by have h := ((Hr5.out.far2 (p := ⟨w.heap.size + 1 + 1 + 1, 0, none⟩) hfar (.int .i64 M.length)).far2 (p := ⟨w.heap.size + 1 + 1 + 1, 1, none⟩) hfar (.int .i64 h)).far2 (p := ⟨w.heap.size + 1 + 1 + 1, 2, none⟩) hfar (.slice R (M.length * h) rc); rw [← hwS] at h; exact h
  rw [← hwS]
  have kF := bS.all3
  refine bodyPost_ret (v := .tuple #[.agg #[.int .i64 M.length, .int .i64 h, .slice R (M.length * h) rc], .int .i64 0]) (by simp [results, Tryz.results80, go_sem, kF]) rfl ⟨⟨_, _, _, _, _, by rw [HC0.out], Res.page HC0.out rS (fun ad h => by have := Hn5.out ad h; omega)⟩, hS⟩
theorem drawnER_eq {ls : List Ltr} {ht gap sp : Nat} {x : Fld} {t : List UInt8} {h : Nat} (hb : x.kind ≠ 1 → x.box.H = (h : Int)) : drawnE ls ht gap sp x t = if drawnER ls ht gap sp x t = 0 then whenI (decide (x.box.W < (drawnW ls gap sp x t : Int)) || decide (x.box.H < (drawnH ht x : Int))) 15 else drawnER ls ht gap sp x t := by
 unfold drawnE drawnER drawnW drawnH
 by_cases hk : x.kind = 1
 · simp only [if_pos hk]
 · simp only [if_neg hk]
   rw [hb hk, Int.toNat_natCast, decide_eq_false (show ¬ (h : Int) < (h : Int) by omega), Bool.or_false]
theorem drawnER_size {ls : List Ltr} {ht gap sp : Nat} {x : Fld} {t : List UInt8} (hb : x.kind ≠ 1 → ∃ h : Nat, x.box.H = (h : Int) ∧ h ≤ 4000) (h0 : drawnER ls ht gap sp x t = 0) : drawnW ls gap sp x t ≤ 4000 ∧ drawnH ht x ≤ 4000 := by
 unfold drawnER at h0
 unfold drawnW drawnH
 by_cases hk : x.kind = 1
 · rw [if_pos hk] at h0 ⊢
   rw [if_pos hk]
   have := sizeErr_zero (setErr_size h0)
   omega
 · rw [if_neg hk] at h0 ⊢
   rw [if_neg hk]
   obtain ⟨h, e, h4⟩ := hb hk
   have := (codeM_ok h0).2.2
   rw [e, Int.toNat_natCast]
   exact ⟨this, h4⟩
theorem drawnR_any (x : Fld) (v : Vlu) (nm : List UInt8) (ht gap sp : Nat) (adl : Addr) (c : Nat) (ls : List Ltr) (w : World) (hL : LtrsAt w (some adl) ls) (hR : Right ht gap sp ls) (htl : v.text.length ≤ 1048576) (hv : SubOk w) (hT : SpOk w) (hbox : x.kind ≠ 1 → ∃ h : Nat, x.box.H = (h : Int) ∧ h ≤ 4000) :
 Calls Tryz.prog 80 #[x.val, v.val, .agg #[.string ⟨nm.toArray⟩, .int .i64 ht, .int .i64 gap, .int .i64 sp, .slice (some adl) ls.length c]] w fun e w' => DrawnRes w.heap.size (drawnER ls ht gap sp x v.text) (drawnW ls gap sp x v.text) (drawnH ht x) (drawnB ls ht gap sp x v.text) e w' ∧ Bl w w' := by
 unfold drawnER drawnW drawnH drawnB
 by_cases hk : x.kind = 1
 · rw [if_pos hk, if_pos hk, if_pos hk, if_pos hk]
   exact drawnT_any x v nm ht gap sp adl c ls w hk hL hR htl hv
 · obtain ⟨h, e, h4⟩ := hbox hk
   rw [if_neg hk, if_neg hk, if_neg hk, if_neg hk, e, Int.toNat_natCast]
   exact drawnC_any x v nm ht gap sp adl c ls w h hk htl hT e h4
end Go.Proofs.YthobmednnocklaaGreatDoor
