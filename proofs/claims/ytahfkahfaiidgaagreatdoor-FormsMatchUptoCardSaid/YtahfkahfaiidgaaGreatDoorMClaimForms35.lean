/- forms.Offset, Place, Paper; bedlaw2.sized. -/
import Derived.Test.YtahfkahfaiidgaaGreatDoorMClaimForms34
import Derived.Test.YtahfkahfaiidgaaGreatDoorMClaimForms29
import Derived.Test.YtahfkahfaiidgaaGreatDoorMClaimForms32
import Derived.Test.YtahfkahfaiidgaaGreatDoorMClaimForms28
import Derived.Test.YtahfkahfaiidgaaGreatDoorMClaimForms1

namespace Go.Proofs.YtahfkahfaiidgaaGreatDoor
open Go.RowKit Go.Shelf

/-- What is wrong with a page for a right form, and for any form. -/
def pageE (W H bW bH : Int) (n : Nat) : Int := if pageErr bW bH n = 0 then whenI (!decide (bW = W) || !decide (bH = H)) 11 else pageErr bW bH n
def wantF (f : Frm) (bW bH : Int) (n : Nat) : Int := if f.err = 0 then pageE f.W f.H bW bH n else f.err
theorem pageE_ok {W H bW bH : Int} {n : Nat} (h : pageE W H bW bH n = 0) : bW = W ∧ bH = H ∧ pageErr bW bH n = 0 := by
  unfold pageE at h
  by_cases h0 : pageErr bW bH n = 0
  · rw [if_pos h0] at h
    have := whenI_no (by decide) h
    simp at this
    exact ⟨this.1, this.2, h0⟩
  · rw [if_neg h0] at h
    exact absurd h h0
theorem wantF_ok {f : Frm} {bW bH : Int} {n : Nat} (h : wantF f bW bH n = 0) : f.err = 0 ∧ ∃ W H r, Fits f W H r ∧ bW = (W : Int) ∧ bH = (H : Int) ∧ n = W * H := by
  unfold wantF at h
  by_cases h0 : f.err = 0
  · rw [if_pos h0] at h
    obtain ⟨e1, e2, e3⟩ := pageE_ok h
    obtain ⟨W, H, r, hfit⟩ := fits_of h0
    rw [e1, e2, hfit.fW, hfit.fH] at e3
    obtain ⟨-, hn⟩ := pageErr_zero e3
    refine ⟨h0, W, H, r, hfit, e1.trans hfit.fW, e2.trans hfit.fH, ?_⟩
    have := Int.natCast_mul W H
    omega
  · rw [if_neg h0] at h
    exact absurd h h0
set_option maxRecDepth 100000 in
set_option maxHeartbeats 2000000 in
theorem fits_any (f : Frm) (bW bH : Int) (C : Option Addr) (n cc : Nat) (w : World) :
    Calls Tryz.prog 92 #[f.val, .agg #[.int .i64 bW, .int .i64 bH, .slice C n cc]] w fun e w' => e = .returned (.int .i64 (pageE f.W f.H bW bH n)) ∧ Bl w w' := by
  obtain ⟨nm, fW, fH, reach, dark, AL, ac, la, FL, fc, lf, RL, rc, lr⟩ := f
  show Calls _ _ _ w fun e w' => e = .returned (.int .i64 (pageE fW fH bW bH n)) ∧ Bl w w'
  obtain ⟨E, hE⟩ : ∃ e, e = pageE fW fH bW bH n := ⟨_, rfl⟩
  rw [← hE]
  let w1 := ((w).alloc (.cells #[.string ⟨nm.toArray⟩, .int .i64 fW, .int .i64 fH, .int .i64 reach, .int .i64 dark, .slice AL la.length ac, .slice FL lf.length fc, .slice RL lr.length rc] 26)).alloc (.cells #[.int .i64 bW, .int .i64 bH, .slice C n cc] 42)
  have w1b : Bl w w1 := ((Bl.refl w).alloc _).alloc _
  have w11 : Blk w1 (w.heap.size) 26 #[.string ⟨nm.toArray⟩, .int .i64 fW, .int .i64 fH, .int .i64 reach, .int .i64 dark, .slice AL la.length ac, .slice FL lf.length fc, .slice RL lr.length rc] := by
    have h0 := Blk.new (w) 26 #[.string ⟨nm.toArray⟩, .int .i64 fW, .int .i64 fH, .int .i64 reach, .int .i64 dark, .slice AL la.length ac, .slice FL lf.length fc, .slice RL lr.length rc]
    exact (h0.alloc _)
  have w12 : Blk w1 (w.heap.size + 1) 42 #[.int .i64 bW, .int .i64 bH, .slice C n cc] := by
    have h0 := Blk.new ((w).alloc (.cells #[.string ⟨nm.toArray⟩, .int .i64 fW, .int .i64 fH, .int .i64 reach, .int .i64 dark, .slice AL la.length ac, .slice FL lf.length fc, .slice RL lr.length rc] 26)) 42 #[.int .i64 bW, .int .i64 bH, .slice C n cc]
    simp only [World.size_alloc] at h0
    exact h0
  have k1 := w11.all8
  have k2 := w12.all3
  have HW1b := Lib.hid w1b
  have Hck := Lib.hid (fun wx => checkBits_any bW bH C n cc wx)
  obtain ⟨PE, hPE⟩ : ∃ e, e = pageErr bW bH n := ⟨_, rfl⟩
  rw [← hPE] at Hck
  have HE := Lib.hid (show E = if PE = 0 then whenI (!decide (bW = fW) || !decide (bH = fH)) 11 else PE by rw [hE, hPE]; rfl)
  unfold Frm.val
  clear w1b hE hPE
  go_enter Tryz.func92, Tryz.ntmps92
  go_upto_region 1 with fail
  rw [show (w.alloc (.cells #[.string ⟨nm.toArray⟩, .int .i64 fW, .int .i64 fH, .int .i64 reach, .int .i64 dark, .slice AL la.length ac, .slice FL lf.length fc, .slice RL lr.length rc] 26)).alloc (.cells #[.int .i64 bW, .int .i64 bH, .slice C n cc] 42) = w1 from rfl]
  clear_value w1
  go_upto_region 2 with (go_at_call 126; refine (Hck.out _).mono ?_; rintro e w2 ⟨rfl, hb2⟩)
  have k1 := (w11.bl hb2).all8
  have k2 := (w12.bl hb2).all3
  have Hb2 := Lib.hid (HW1b.out.trans hb2)
  clear hb2
  by_cases hz : PE = 0
  · have q : (PE != 0) = false := by simp [hz]
    have HE2 := Lib.hid (show E = whenI (!decide (bW = fW) || !decide (bH = fH)) 11 by rw [HE.out, if_pos hz])
    clear hz
    by_cases c1 : bW = fW
    · have q1 : (bW != fW) = false := by simp [c1]
      by_cases c2 : bH = fH
      · have q2 : (bH != fH) = false := by simp [c2]
        have HX := Lib.hid (show E = 0 by rw [HE2.out, decide_eq_true c1, decide_eq_true c2]; rfl)
        clear c1 c2
        go_wp2_with fail
        go_ret
        exact ⟨by rw [HX.out] <;> rfl, Hb2.out⟩
      · have q2 : (bH != fH) = true := by simp [c2]
        have HX := Lib.hid (show E = 11 by rw [HE2.out, decide_eq_true c1, decide_eq_false c2]; rfl)
        clear c1 c2
        go_wp2_with fail
        go_ret
        exact ⟨by rw [HX.out] <;> rfl, Hb2.out⟩
    · have q1 : (bW != fW) = true := by simp [c1]
      have HX := Lib.hid (show E = 11 by rw [HE2.out, decide_eq_false c1]; rfl)
      clear c1
      go_wp2_with fail
      go_ret
      exact ⟨by rw [HX.out] <;> rfl, Hb2.out⟩
  · have q : (PE != 0) = true := by simp [hz]
    have HX := Lib.hid (show E = PE by rw [HE.out, if_neg hz])
    clear hz
    go_wp2_with fail
    go_ret
    exact ⟨by rw [HX.out] <;> rfl, Hb2.out⟩
set_option maxRecDepth 100000 in
set_option maxHeartbeats 2000000 in
theorem checkPage_any (f : Frm) (bW bH : Int) (C : Option Addr) (n cc : Nat) (w : World) (hF : FrmAt w f) (hS : f.small 1048576) (hN : NumOk w) (hC : SplitOk w) :
    Calls Tryz.prog 50 #[f.val, .agg #[.int .i64 bW, .int .i64 bH, .slice C n cc]] w fun e w' => e = .returned (.int .i64 (wantF f bW bH n)) ∧ Bl w w' := by
  have hck := fun wx hF hN hC => checkF_any f wx hF hS hN hC
  have hfi := fun wx => fits_any f bW bH C n cc wx
  obtain ⟨E, hE⟩ : ∃ e, e = wantF f bW bH n := ⟨_, rfl⟩
  rw [← hE]
  obtain ⟨FE, hFE⟩ : ∃ e, e = f.err := ⟨_, rfl⟩
  obtain ⟨PE, hPE⟩ : ∃ e, e = pageE f.W f.H bW bH n := ⟨_, rfl⟩
  rw [← hFE] at hck
  rw [← hPE] at hfi
  have HE := Lib.hid (show E = if FE = 0 then PE else FE by rw [hE, hFE, hPE]; rfl)
  obtain ⟨nm, fW, fH, reach, dark, AL, ac, la, FL, fc, lf, RL, rc, lr⟩ := f
  let w1 := ((w).alloc (.cells #[.string ⟨nm.toArray⟩, .int .i64 fW, .int .i64 fH, .int .i64 reach, .int .i64 dark, .slice AL la.length ac, .slice FL lf.length fc, .slice RL lr.length rc] 26)).alloc (.cells #[.int .i64 bW, .int .i64 bH, .slice C n cc] 42)
  have w1b : Bl w w1 := ((Bl.refl w).alloc _).alloc _
  have w11 : Blk w1 (w.heap.size) 26 #[.string ⟨nm.toArray⟩, .int .i64 fW, .int .i64 fH, .int .i64 reach, .int .i64 dark, .slice AL la.length ac, .slice FL lf.length fc, .slice RL lr.length rc] := by
    have h0 := Blk.new (w) 26 #[.string ⟨nm.toArray⟩, .int .i64 fW, .int .i64 fH, .int .i64 reach, .int .i64 dark, .slice AL la.length ac, .slice FL lf.length fc, .slice RL lr.length rc]
    exact (h0.alloc _)
  have w12 : Blk w1 (w.heap.size + 1) 42 #[.int .i64 bW, .int .i64 bH, .slice C n cc] := by
    have h0 := Blk.new ((w).alloc (.cells #[.string ⟨nm.toArray⟩, .int .i64 fW, .int .i64 fH, .int .i64 reach, .int .i64 dark, .slice AL la.length ac, .slice FL lf.length fc, .slice RL lr.length rc] 26)) 42 #[.int .i64 bW, .int .i64 bH, .slice C n cc]
    simp only [World.size_alloc] at h0
    exact h0
  unfold Frm.val at hck hfi
  have k1 := w11.all8
  have k2 := w12.all3
  have HW1b := Lib.hid w1b
  have Hck := Lib.hid (hck w1 (hF.bl w1b) (hN.bl w1b) (hC.bl w1b)); have Hfi := Lib.hid hfi
  unfold Frm.val
  clear w1b hE hPE hFE hck hfi hF hN hC hS
  go_enter Tryz.func50, Tryz.ntmps50
  go_upto_region 1 with fail
  rw [show (w.alloc (.cells #[.string ⟨nm.toArray⟩, .int .i64 fW, .int .i64 fH, .int .i64 reach, .int .i64 dark, .slice AL la.length ac, .slice FL lf.length fc, .slice RL lr.length rc] 26)).alloc (.cells #[.int .i64 bW, .int .i64 bH, .slice C n cc] 42) = w1 from rfl]
  clear_value w1
  go_upto_region 2 with (go_at_call 15; refine Hck.out.mono ?_; rintro e w2 ⟨rfl, hb2⟩)
  have k1 := (w11.bl hb2).all8
  have k2 := (w12.bl hb2).all3
  have Hb2 := Lib.hid (HW1b.out.trans hb2)
  clear hb2
  by_cases hz : FE = 0
  · have q : (FE != 0) = false := by simp [hz]
    have HX := Lib.hid (show E = PE by rw [HE.out, if_pos hz])
    clear hz
    go_wp2_with (go_at_call 92; refine (Hfi.out _).mono ?_; rintro e w3 ⟨rfl, hb3⟩)
    go_ret
    exact ⟨by rw [HX.out] <;> rfl, Hb2.out.trans hb3⟩
  · have q : (FE != 0) = true := by simp [hz]
    have HX := Lib.hid (show E = FE by rw [HE.out, if_neg hz])
    clear hz
    go_wp2_with fail
    go_ret
    exact ⟨by rw [HX.out] <;> rfl, Hb2.out⟩

/-! ### what is said of a page -/
def AncRes (f : Frm) (E : Int) (cs : List Bool) (e : Ending) (w' : World) : Prop := ∃ A n c, e = .returned (.tuple #[.slice A n c, .int .i64 E]) ∧ (E ≠ 0 → n = 0) ∧ (E = 0 → n = f.la.length ∧ Reads w' 3 A n (f.la.flatMap (fndCells f cs)))
set_option maxRecDepth 100000 in
set_option maxHeartbeats 4000000 in
theorem anchorsPub_any (f : Frm) (bW bH : Int) (C : Option Addr) (n cc : Nat) (cs : List Bool) (w : World) (hF : FrmAt w f) (hS : f.small 1048576) (hN : NumOk w) (hC : SplitOk w) (hR : Reads w 1 C n (cs.map .bool)) :
    Calls Tryz.prog 11 #[f.val, .agg #[.int .i64 bW, .int .i64 bH, .slice C n cc]] w fun e w' => AncRes f (wantF f bW bH n) cs e w' ∧ Bl w w' := by
  have hck := fun wx hF hN hC => checkPage_any f bW bH C n cc wx hF hS hN hC
  have han := fun (h : wantF f bW bH n = 0) wx (hF : FrmAt wx f) (hR : Reads wx 1 C n (cs.map .bool)) => show Calls Tryz.prog 51 #[f.val, .agg #[.int .i64 bW, .int .i64 bH, .slice C n cc]] wx fun e w' => ∃ A c, e = .returned (.slice A f.la.length c) ∧ Reads w' 3 A f.la.length (f.la.flatMap (fndCells f cs)) ∧ Bl wx w' by
    obtain ⟨-, W, H, r, hfit, rfl, rfl, rfl⟩ := wantF_ok h
    exact anchors_any f C cc cs W H r wx hfit hF hR
  obtain ⟨E, hE⟩ : ∃ e, e = wantF f bW bH n := ⟨_, rfl⟩
  rw [← hE] at hck han ⊢
  have hres := fun (A : Option Addr) c w' (hz : E = 0) (h : Reads w' 3 A f.la.length (f.la.flatMap (fndCells f cs))) => show AncRes f E cs (.returned (.tuple #[.slice A f.la.length c, .int .i64 E])) w' from ⟨A, _, c, rfl, fun h => absurd hz h, fun _ => ⟨rfl, h⟩⟩
  have hbad := fun (hz : E ≠ 0) w' => show AncRes f E cs (.returned (.tuple #[.slice none 0 0, .int .i64 E])) w' from ⟨none, 0, 0, rfl, fun _ => rfl, fun h => absurd h hz⟩
  obtain ⟨FC, hFC⟩ : ∃ o, o = fndCells f cs := ⟨_, rfl⟩
  rw [← hFC] at han hres
  obtain ⟨RS, hRS⟩ : ∃ o, o = AncRes f E cs := ⟨_, rfl⟩
  rw [← hRS] at hres hbad ⊢
  obtain ⟨nm, fW, fH, reach, dark, AL, ac, la, FL, fc, lf, RL, rc, lr⟩ := f
  let w1 := ((w).alloc (.cells #[.string ⟨nm.toArray⟩, .int .i64 fW, .int .i64 fH, .int .i64 reach, .int .i64 dark, .slice AL la.length ac, .slice FL lf.length fc, .slice RL lr.length rc] 26)).alloc (.cells #[.int .i64 bW, .int .i64 bH, .slice C n cc] 42)
  have w1b : Bl w w1 := ((Bl.refl w).alloc _).alloc _
  have w11 : Blk w1 (w.heap.size) 26 #[.string ⟨nm.toArray⟩, .int .i64 fW, .int .i64 fH, .int .i64 reach, .int .i64 dark, .slice AL la.length ac, .slice FL lf.length fc, .slice RL lr.length rc] := by
    have h0 := Blk.new (w) 26 #[.string ⟨nm.toArray⟩, .int .i64 fW, .int .i64 fH, .int .i64 reach, .int .i64 dark, .slice AL la.length ac, .slice FL lf.length fc, .slice RL lr.length rc]
    exact (h0.alloc _)
  have w12 : Blk w1 (w.heap.size + 1) 42 #[.int .i64 bW, .int .i64 bH, .slice C n cc] := by
    have h0 := Blk.new ((w).alloc (.cells #[.string ⟨nm.toArray⟩, .int .i64 fW, .int .i64 fH, .int .i64 reach, .int .i64 dark, .slice AL la.length ac, .slice FL lf.length fc, .slice RL lr.length rc] 26)) 42 #[.int .i64 bW, .int .i64 bH, .slice C n cc]
    simp only [World.size_alloc] at h0
    exact h0
  unfold Frm.val at hck han
  have k1 := w11.all8
  have k2 := w12.all3
  have HW1b := Lib.hid w1b
  have Hck := Lib.hid (hck w1 (hF.bl w1b) (hN.bl w1b) (hC.bl w1b)); have Han := Lib.hid han; have HF := Lib.hid (hF.bl w1b); have HR := Lib.hid (hR.bl w1b); have Hres := Lib.hid hres; have Hbad := Lib.hid hbad
  unfold Frm.val
  clear w1b hE hck han hF hN hC hS hR hres hbad hFC hRS
  go_enter Tryz.func11, Tryz.ntmps11
  go_upto_region 1 with fail
  rw [show (w.alloc (.cells #[.string ⟨nm.toArray⟩, .int .i64 fW, .int .i64 fH, .int .i64 reach, .int .i64 dark, .slice AL la.length ac, .slice FL lf.length fc, .slice RL lr.length rc] 26)).alloc (.cells #[.int .i64 bW, .int .i64 bH, .slice C n cc] 42) = w1 from rfl]
  clear_value w1
  go_upto_region 2 with (go_at_call 50; refine Hck.out.mono ?_; rintro e w2 ⟨rfl, hb2⟩)
  have k1 := (w11.bl hb2).all8
  have k2 := (w12.bl hb2).all3
  have Hb2 := Lib.hid hb2
  clear hb2
  by_cases hz : E = 0
  · have Hz := Lib.hid hz
    obtain rfl := hz
    go_wp2_with fail
    refine (Han.out Hz.out _ (HF.out.bl Hb2.out) (HR.out.bl Hb2.out)).mono ?_
    rintro e w3 ⟨A, c, rfl, hr3, hb3⟩
    have Hr3 := Lib.hid hr3
    clear hr3
    go_wp2_with fail
    go_ret2
    exact ⟨Hres.out A c _ Hz.out Hr3.out, HW1b.out.trans (Hb2.out.trans hb3)⟩
  · have q : (E != 0) = true := by simp [hz]
    have Hz := Lib.hid hz
    clear hz
    go_wp2_with fail
    go_ret2
    exact ⟨Hbad.out Hz.out _, HW1b.out.trans Hb2.out⟩
end Go.Proofs.YtahfkahfaiidgaaGreatDoor


/-! forms.Offset, Place, Paper; bedlaw2.sized. -/
namespace Go.Proofs.YtahfkahfaiidgaaGreatDoor
open Go.RowKit Go.Shelf

def offP (f : Frm) (E : Int) (cs : List Bool) : Int × Int := if E = 0 then (medI (offX f cs), medI (offY f cs)) else (0, 0)
set_option maxRecDepth 100000 in
set_option maxHeartbeats 4000000 in
theorem offsetPub_any (f : Frm) (bW bH : Int) (C : Option Addr) (n cc : Nat) (cs : List Bool) (w : World) (hF : FrmAt w f) (hS : f.small 1048576) (hN : NumOk w) (hC : SplitOk w) (hR : Reads w 1 C n (cs.map .bool)) :
    Calls Tryz.prog 12 #[f.val, .agg #[.int .i64 bW, .int .i64 bH, .slice C n cc]] w fun e w' => e = .returned (.tuple #[.agg #[.int .i64 (offP f (wantF f bW bH n) cs).1, .int .i64 (offP f (wantF f bW bH n) cs).2], .int .i64 (wantF f bW bH n)]) ∧ Bl w w' := by
  have hck := fun wx hF hN hC => checkPage_any f bW bH C n cc wx hF hS hN hC
  have han := fun (h : wantF f bW bH n = 0) wx (hF : FrmAt wx f) (hR : Reads wx 1 C n (cs.map .bool)) => show Calls Tryz.prog 52 #[f.val, .agg #[.int .i64 bW, .int .i64 bH, .slice C n cc]] wx fun e w' => e = .returned (.agg #[.int .i64 (medI (offX f cs)), .int .i64 (medI (offY f cs))]) ∧ Bl wx w' by
    obtain ⟨-, W, H, r, hfit, rfl, rfl, rfl⟩ := wantF_ok h
    exact offset_any f C cc cs W H r wx hfit hF hR
  obtain ⟨E, hE⟩ : ∃ e, e = wantF f bW bH n := ⟨_, rfl⟩
  rw [← hE] at hck han ⊢
  obtain ⟨px, hpx⟩ : ∃ e, e = medI (offX f cs) := ⟨_, rfl⟩
  obtain ⟨py, hpy⟩ : ∃ e, e = medI (offY f cs) := ⟨_, rfl⟩
  rw [← hpx, ← hpy] at han
  obtain ⟨PP, hPP⟩ : ∃ p, p = offP f E cs := ⟨_, rfl⟩
  have h1 : E = 0 → PP = (px, py) := fun h => by rw [hPP, hpx, hpy]; unfold offP; rw [if_pos h]
  have h2 : E ≠ 0 → PP = (0, 0) := fun h => by rw [hPP]; unfold offP; rw [if_neg h]
  rw [← hPP]
  obtain ⟨nm, fW, fH, reach, dark, AL, ac, la, FL, fc, lf, RL, rc, lr⟩ := f
  let w1 := (((w).alloc (.cells #[.string ⟨nm.toArray⟩, .int .i64 fW, .int .i64 fH, .int .i64 reach, .int .i64 dark, .slice AL la.length ac, .slice FL lf.length fc, .slice RL lr.length rc] 26)).alloc (.cells #[.int .i64 bW, .int .i64 bH, .slice C n cc] 42)).alloc (.cells #[.int .i64 0, .int .i64 0] 47)
  have w1b : Bl w w1 := (((Bl.refl w).alloc _).alloc _).alloc _
  have w11 : Blk w1 (w.heap.size) 26 #[.string ⟨nm.toArray⟩, .int .i64 fW, .int .i64 fH, .int .i64 reach, .int .i64 dark, .slice AL la.length ac, .slice FL lf.length fc, .slice RL lr.length rc] := by
    have h0 := Blk.new (w) 26 #[.string ⟨nm.toArray⟩, .int .i64 fW, .int .i64 fH, .int .i64 reach, .int .i64 dark, .slice AL la.length ac, .slice FL lf.length fc, .slice RL lr.length rc]
    exact ((h0.alloc _).alloc _)
  have w12 : Blk w1 (w.heap.size + 1) 42 #[.int .i64 bW, .int .i64 bH, .slice C n cc] := by
    have h0 := Blk.new ((w).alloc (.cells #[.string ⟨nm.toArray⟩, .int .i64 fW, .int .i64 fH, .int .i64 reach, .int .i64 dark, .slice AL la.length ac, .slice FL lf.length fc, .slice RL lr.length rc] 26)) 42 #[.int .i64 bW, .int .i64 bH, .slice C n cc]
    simp only [World.size_alloc] at h0
    exact (h0.alloc _)
  have w13 : Blk w1 (w.heap.size + 1 + 1) 47 #[.int .i64 0, .int .i64 0] := by
    have h0 := Blk.new (((w).alloc (.cells #[.string ⟨nm.toArray⟩, .int .i64 fW, .int .i64 fH, .int .i64 reach, .int .i64 dark, .slice AL la.length ac, .slice FL lf.length fc, .slice RL lr.length rc] 26)).alloc (.cells #[.int .i64 bW, .int .i64 bH, .slice C n cc] 42)) 47 #[.int .i64 0, .int .i64 0]
    simp only [World.size_alloc] at h0
    exact h0
  unfold Frm.val at hck han
  have k1 := w11.all8
  have k2 := w12.all3
  have HW1b := Lib.hid w1b
  have Hck := Lib.hid (hck w1 (hF.bl w1b) (hN.bl w1b) (hC.bl w1b)); have Han := Lib.hid han; have HF := Lib.hid (hF.bl w1b); have HR := Lib.hid (hR.bl w1b); have H1 := Lib.hid h1; have H2 := Lib.hid h2
  unfold Frm.val
  clear w1b hE hck han hF hN hC hS hR h1 h2 hpx hpy hPP
  go_enter Tryz.func12, Tryz.ntmps12
  go_upto_region 1 with fail
  rw [show ((w.alloc (.cells #[.string ⟨nm.toArray⟩, .int .i64 fW, .int .i64 fH, .int .i64 reach, .int .i64 dark, .slice AL la.length ac, .slice FL lf.length fc, .slice RL lr.length rc] 26)).alloc (.cells #[.int .i64 bW, .int .i64 bH, .slice C n cc] 42)).alloc (.cells #[.int .i64 0, .int .i64 0] 47) = w1 from rfl]
  clear_value w1
  go_upto_region 2 with (go_at_call 50; refine Hck.out.mono ?_; rintro e w2 ⟨rfl, hb2⟩)
  have k1 := (w11.bl hb2).all8
  have k2 := (w12.bl hb2).all3
  have B2 := Lib.hid (w13.bl hb2)
  have k3 := B2.out.all2
  have Hb2 := Lib.hid hb2
  clear hb2
  by_cases hz : E = 0
  · have Hz := Lib.hid hz
    have HX := Lib.hid (H1.out hz)
    obtain rfl := hz
    go_wp2_with fail
    refine (Han.out Hz.out _ (HF.out.bl Hb2.out) (HR.out.bl Hb2.out)).mono ?_
    rintro e w3 ⟨rfl, hb3⟩
    have B3 := Lib.hid (B2.out.bl hb3)
    have k3 := B3.out.all2
    have Hb3 := Lib.hid (HW1b.out.trans (Hb2.out.trans hb3))
    clear hb3
    go_wp2_with fail
    obtain ⟨wS, hwS⟩ : ∃ x, x = (w3.setCell ⟨w.heap.size + 1 + 1, 0, none⟩ (.int .i64 px)).setCell ⟨w.heap.size + 1 + 1, 1, none⟩ (.int .i64 py) := ⟨_, rfl⟩
    have bS : Blk wS (w.heap.size + 1 + 1) 47 #[.int .i64 px, .int .i64 py] := by rw [hwS]; exact (B3.out.set_ 0 _).set_ 1 _
    have hS : Bl w wS := by rw [hwS]; exact (Hb3.out.setCell (by show _ ≤ _ + 1 + 1; omega) _).setCell (by show _ ≤ _ + 1 + 1; omega) _
    rw [← hwS]
    have kF := bS.all2
    refine bodyPost_ret (v := .tuple #[.agg #[.int .i64 px, .int .i64 py], .int .i64 0]) (by simp [results, Tryz.results12, go_sem, kF]) rfl ⟨by rw [HX.out], hS⟩
  · have q : (E != 0) = true := by simp [hz]
    have HX := Lib.hid (H2.out hz)
    clear hz
    go_wp2_with fail
    obtain ⟨wS, hwS⟩ : ∃ x, x = (w2.setCell ⟨w.heap.size + 1 + 1, 0, none⟩ (.int .i64 0)).setCell ⟨w.heap.size + 1 + 1, 1, none⟩ (.int .i64 0) := ⟨_, rfl⟩
    have bS : Blk wS (w.heap.size + 1 + 1) 47 #[.int .i64 0, .int .i64 0] := by rw [hwS]; exact (B2.out.set_ 0 _).set_ 1 _
    have hS : Bl w wS := by rw [hwS]; exact ((HW1b.out.trans Hb2.out).setCell (by show _ ≤ _ + 1 + 1; omega) _).setCell (by show _ ≤ _ + 1 + 1; omega) _
    rw [← hwS]
    have kF := bS.all2
    refine bodyPost_ret (v := .tuple #[.agg #[.int .i64 0, .int .i64 0], .int .i64 E]) (by simp [results, Tryz.results12, go_sem, kF]) rfl ⟨by rw [HX.out], hS⟩
/-- The answer of Place and of Paper: a page anew, or the empty page. -/
def PgRes (B : Nat) (E : Int) (W H : Nat) (bs : List Bool) (e : Ending) (w' : World) : Prop := ∃ a b R m c, e = .returned (.tuple #[.agg #[.int .i64 a, .int .i64 b, .slice R m c], .int .i64 E]) ∧ Res B w' E W H (bs.map .bool) a b R m c
set_option maxRecDepth 100000 in
set_option maxHeartbeats 4000000 in
theorem placePub_any (f : Frm) (bW bH : Int) (C : Option Addr) (n cc : Nat) (cs : List Bool) (w : World) (hF : FrmAt w f) (hS : f.small 1048576) (hN : NumOk w) (hC : SplitOk w) (hR : Reads w 1 C n (cs.map .bool)) :
    Calls Tryz.prog 13 #[f.val, .agg #[.int .i64 bW, .int .i64 bH, .slice C n cc]] w fun e w' => PgRes w.heap.size (wantF f bW bH n) bW.toNat bH.toNat (placeB f cs) e w' ∧ Bl w w' := by
  have hck := fun wx hF hN hC => checkPage_any f bW bH C n cc wx hF hS hN hC
  have han := fun (h : wantF f bW bH n = 0) wx (hF : FrmAt wx f) (hR : Reads wx 1 C n (cs.map .bool)) => show Calls Tryz.prog 53 #[f.val, .agg #[.int .i64 bW, .int .i64 bH, .slice C n cc]] wx fun e w' => ∃ v, e = .returned v ∧ BPage wx.heap.size w' v bW.toNat bH.toNat (placeB f cs) ∧ Bl wx w' by
    obtain ⟨-, W, H, r, hfit, rfl, rfl, rfl⟩ := wantF_ok h
    exact place_any f C cc cs W H r wx hfit hF hR
  obtain ⟨E, hE⟩ : ∃ e, e = wantF f bW bH n := ⟨_, rfl⟩
  rw [← hE] at hck han ⊢
  obtain ⟨pW, hpW⟩ : ∃ e, e = bW.toNat := ⟨_, rfl⟩
  obtain ⟨pH, hpH⟩ : ∃ e, e = bH.toNat := ⟨_, rfl⟩
  obtain ⟨PB, hPB⟩ : ∃ e, e = placeB f cs := ⟨_, rfl⟩
  rw [← hPB] at han ⊢
  rw [← hpW, ← hpH] at han ⊢
  obtain ⟨nm, fW, fH, reach, dark, AL, ac, la, FL, fc, lf, RL, rc, lr⟩ := f
  let w1 := (((w).alloc (.cells #[.string ⟨nm.toArray⟩, .int .i64 fW, .int .i64 fH, .int .i64 reach, .int .i64 dark, .slice AL la.length ac, .slice FL lf.length fc, .slice RL lr.length rc] 26)).alloc (.cells #[.int .i64 bW, .int .i64 bH, .slice C n cc] 42)).alloc (.cells #[.int .i64 0, .int .i64 0, .slice none 0 0] 42)
  have w1b : Bl w w1 := (((Bl.refl w).alloc _).alloc _).alloc _
  have w11 : Blk w1 (w.heap.size) 26 #[.string ⟨nm.toArray⟩, .int .i64 fW, .int .i64 fH, .int .i64 reach, .int .i64 dark, .slice AL la.length ac, .slice FL lf.length fc, .slice RL lr.length rc] := by
    have h0 := Blk.new (w) 26 #[.string ⟨nm.toArray⟩, .int .i64 fW, .int .i64 fH, .int .i64 reach, .int .i64 dark, .slice AL la.length ac, .slice FL lf.length fc, .slice RL lr.length rc]
    exact ((h0.alloc _).alloc _)
  have w12 : Blk w1 (w.heap.size + 1) 42 #[.int .i64 bW, .int .i64 bH, .slice C n cc] := by
    have h0 := Blk.new ((w).alloc (.cells #[.string ⟨nm.toArray⟩, .int .i64 fW, .int .i64 fH, .int .i64 reach, .int .i64 dark, .slice AL la.length ac, .slice FL lf.length fc, .slice RL lr.length rc] 26)) 42 #[.int .i64 bW, .int .i64 bH, .slice C n cc]
    simp only [World.size_alloc] at h0
    exact (h0.alloc _)
  have w13 : Blk w1 (w.heap.size + 1 + 1) 42 #[.int .i64 0, .int .i64 0, .slice none 0 0] := by
    have h0 := Blk.new (((w).alloc (.cells #[.string ⟨nm.toArray⟩, .int .i64 fW, .int .i64 fH, .int .i64 reach, .int .i64 dark, .slice AL la.length ac, .slice FL lf.length fc, .slice RL lr.length rc] 26)).alloc (.cells #[.int .i64 bW, .int .i64 bH, .slice C n cc] 42)) 42 #[.int .i64 0, .int .i64 0, .slice none 0 0]
    simp only [World.size_alloc] at h0
    exact h0
  unfold Frm.val at hck han
  have k1 := w11.all8
  have k2 := w12.all3
  have HW1b := Lib.hid w1b
  have Hck := Lib.hid (hck w1 (hF.bl w1b) (hN.bl w1b) (hC.bl w1b)); have Han := Lib.hid han; have HF := Lib.hid (hF.bl w1b); have HR := Lib.hid (hR.bl w1b)
  unfold Frm.val
  clear w1b hE hck han hF hN hC hS hpW hpH hPB hR
  go_enter Tryz.func13, Tryz.ntmps13
  go_upto_region 1 with fail
  rw [show ((w.alloc (.cells #[.string ⟨nm.toArray⟩, .int .i64 fW, .int .i64 fH, .int .i64 reach, .int .i64 dark, .slice AL la.length ac, .slice FL lf.length fc, .slice RL lr.length rc] 26)).alloc (.cells #[.int .i64 bW, .int .i64 bH, .slice C n cc] 42)).alloc (.cells #[.int .i64 0, .int .i64 0, .slice none 0 0] 42) = w1 from rfl]
  have sz1 : w1.heap.size = w.heap.size + 1 + 1 + 1 := by simp [w1]
  clear_value w1
  go_upto_region 2 with (go_at_call 50; refine Hck.out.mono ?_; rintro e w2 ⟨rfl, hb2⟩)
  have k1 := (w11.bl hb2).all8
  have k2 := (w12.bl hb2).all3
  have B2 := Lib.hid (w13.bl hb2)
  have k3 := B2.out.all3
  have Hb2 := Lib.hid hb2
  have hle2 := hb2.le
  clear hb2
  by_cases hz : E = 0
  · have Hz := Lib.hid hz
    obtain rfl := hz
    go_wp2_with fail
    refine (Han.out Hz.out _ (HF.out.bl Hb2.out) (HR.out.bl Hb2.out)).mono ?_
    rintro e w3 ⟨v3, rfl, ⟨g, rfl, hg, hgl, hgn⟩, hb3⟩
    have B3 := Lib.hid (B2.out.bl hb3)
    have k3 := B3.out.all3
    have Hb3 := Lib.hid (HW1b.out.trans (Hb2.out.trans hb3))
    have HG := Lib.hid hg; have Hgl := Lib.hid hgl
    have hgne : g ≠ w.heap.size + 1 + 1 := by omega
    clear hb3 hg hgl
    go_wp2_with fail
    obtain ⟨wS, hwS⟩ : ∃ x, x = ((w3.setCell ⟨w.heap.size + 1 + 1, 0, none⟩ (.int .i64 pW)).setCell ⟨w.heap.size + 1 + 1, 1, none⟩ (.int .i64 pH)).setCell ⟨w.heap.size + 1 + 1, 2, none⟩ (.slice (some ⟨g, 0, none⟩) (pW * pH) (pW * pH)) := ⟨_, rfl⟩
    have bS : Blk wS (w.heap.size + 1 + 1) 42 #[.int .i64 pW, .int .i64 pH, .slice (some ⟨g, 0, none⟩) (pW * pH) (pW * pH)] := by rw [hwS]; exact ((B3.out.set_ 0 _).set_ 1 _).set_ 2 _
    have bG : Blk wS g 4 (PB.map Value.bool).toArray := by rw [hwS]; exact ((HG.out.far hgne _).far hgne _).far hgne _
    have hS : Bl w wS := by rw [hwS]; exact ((Hb3.out.setCell (by show _ ≤ _ + 1 + 1; omega) _).setCell (by show _ ≤ _ + 1 + 1; omega) _).setCell (by show _ ≤ _ + 1 + 1; omega) _
    rw [← hwS]
    have kF := bS.all3
    refine bodyPost_ret (v := .tuple #[.agg #[.int .i64 pW, .int .i64 pH, .slice (some ⟨g, 0, none⟩) (pW * pH) (pW * pH)], .int .i64 0]) (by simp [results, Tryz.results13, go_sem, kF]) rfl ⟨⟨_, _, _, _, _, rfl, Res.page rfl (by have := bG.reads (pW * pH) 1 (by simp [Hgl.out]); simpa using this) (fun ad h => by injection h with h; subst h; show w.heap.size ≤ g; omega)⟩, hS⟩
  · have q : (E != 0) = true := by simp [hz]
    have Hz := Lib.hid hz
    clear hz
    go_wp2_with fail
    obtain ⟨wS, hwS⟩ : ∃ x, x = ((w2.setCell ⟨w.heap.size + 1 + 1, 0, none⟩ (.int .i64 0)).setCell ⟨w.heap.size + 1 + 1, 1, none⟩ (.int .i64 0)).setCell ⟨w.heap.size + 1 + 1, 2, none⟩ (.slice none 0 0) := ⟨_, rfl⟩
    have bS : Blk wS (w.heap.size + 1 + 1) 42 #[.int .i64 0, .int .i64 0, .slice none 0 0] := by rw [hwS]; exact ((B2.out.set_ 0 _).set_ 1 _).set_ 2 _
    have hS : Bl w wS := by rw [hwS]; exact (((HW1b.out.trans Hb2.out).setCell (by show _ ≤ _ + 1 + 1; omega) _).setCell (by show _ ≤ _ + 1 + 1; omega) _).setCell (by show _ ≤ _ + 1 + 1; omega) _
    rw [← hwS]
    have kF := bS.all3
    refine bodyPost_ret (v := .tuple #[.agg #[.int .i64 0, .int .i64 0, .slice none 0 0], .int .i64 E]) (by simp [results, Tryz.results13, go_sem, kF]) rfl ⟨⟨_, _, _, _, _, rfl, Res.zero _ _ _ _ _ Hz.out⟩, hS⟩
set_option maxRecDepth 100000 in
set_option maxHeartbeats 4000000 in
theorem paperPub_any (f : Frm) (w : World) (hF : FrmAt w f) (hS : f.small 1048576) (hN : NumOk w) (hC : SplitOk w) :
    Calls Tryz.prog 14 #[f.val] w fun e w' => PgRes w.heap.size f.err f.W.toNat f.H.toNat (paperB f) e w' ∧ Bl w w' := by
  have hck := fun wx hF hN hC => checkF_any f wx hF hS hN hC
  have han := fun (h : f.err = 0) wx (hF : FrmAt wx f) => show Calls Tryz.prog 54 #[f.val] wx fun e w' => ∃ v, e = .returned v ∧ BPage wx.heap.size w' v f.W.toNat f.H.toNat (paperB f) ∧ Bl wx w' by
    obtain ⟨W, H, r, hfit⟩ := fits_of h
    unfold paperB
    rw [hfit.fW, hfit.fH, Int.toNat_natCast, Int.toNat_natCast]
    exact paper_any f W H r wx hfit hF
  obtain ⟨E, hE⟩ : ∃ e, e = f.err := ⟨_, rfl⟩
  rw [← hE] at hck han ⊢
  obtain ⟨pW, hpW⟩ : ∃ e, e = f.W.toNat := ⟨_, rfl⟩
  obtain ⟨pH, hpH⟩ : ∃ e, e = f.H.toNat := ⟨_, rfl⟩
  obtain ⟨PB, hPB⟩ : ∃ e, e = paperB f := ⟨_, rfl⟩
  rw [← hPB] at han ⊢
  rw [← hpW, ← hpH] at han ⊢
  obtain ⟨nm, fW, fH, reach, dark, AL, ac, la, FL, fc, lf, RL, rc, lr⟩ := f
  let w1 := ((w).alloc (.cells #[.string ⟨nm.toArray⟩, .int .i64 fW, .int .i64 fH, .int .i64 reach, .int .i64 dark, .slice AL la.length ac, .slice FL lf.length fc, .slice RL lr.length rc] 26)).alloc (.cells #[.int .i64 0, .int .i64 0, .slice none 0 0] 42)
  have w1b : Bl w w1 := ((Bl.refl w).alloc _).alloc _
  have w11 : Blk w1 (w.heap.size) 26 #[.string ⟨nm.toArray⟩, .int .i64 fW, .int .i64 fH, .int .i64 reach, .int .i64 dark, .slice AL la.length ac, .slice FL lf.length fc, .slice RL lr.length rc] := by
    have h0 := Blk.new (w) 26 #[.string ⟨nm.toArray⟩, .int .i64 fW, .int .i64 fH, .int .i64 reach, .int .i64 dark, .slice AL la.length ac, .slice FL lf.length fc, .slice RL lr.length rc]
    exact (h0.alloc _)
  have w12 : Blk w1 (w.heap.size + 1) 42 #[.int .i64 0, .int .i64 0, .slice none 0 0] := by
    have h0 := Blk.new ((w).alloc (.cells #[.string ⟨nm.toArray⟩, .int .i64 fW, .int .i64 fH, .int .i64 reach, .int .i64 dark, .slice AL la.length ac, .slice FL lf.length fc, .slice RL lr.length rc] 26)) 42 #[.int .i64 0, .int .i64 0, .slice none 0 0]
    simp only [World.size_alloc] at h0
    exact h0
  unfold Frm.val at hck han
  have k1 := w11.all8
  skip
  have HW1b := Lib.hid w1b
  have Hck := Lib.hid (hck w1 (hF.bl w1b) (hN.bl w1b) (hC.bl w1b)); have Han := Lib.hid han; have HF := Lib.hid (hF.bl w1b)
  unfold Frm.val
  clear w1b hE hck han hF hN hC hS hpW hpH hPB
  go_enter Tryz.func14, Tryz.ntmps14
  go_upto_region 1 with fail
  rw [show (w.alloc (.cells #[.string ⟨nm.toArray⟩, .int .i64 fW, .int .i64 fH, .int .i64 reach, .int .i64 dark, .slice AL la.length ac, .slice FL lf.length fc, .slice RL lr.length rc] 26)).alloc (.cells #[.int .i64 0, .int .i64 0, .slice none 0 0] 42) = w1 from rfl]
  have sz1 : w1.heap.size = w.heap.size + 1 + 1 := by simp [w1]
  clear_value w1
  go_upto_region 2 with (go_at_call 15; refine Hck.out.mono ?_; rintro e w2 ⟨rfl, hb2⟩)
  have k1 := (w11.bl hb2).all8
  skip
  have B2 := Lib.hid (w12.bl hb2)
  have k3 := B2.out.all3
  have Hb2 := Lib.hid hb2
  have hle2 := hb2.le
  clear hb2
  by_cases hz : E = 0
  · have Hz := Lib.hid hz
    obtain rfl := hz
    go_wp2_with fail
    refine (Han.out Hz.out _ (HF.out.bl Hb2.out)).mono ?_
    rintro e w3 ⟨v3, rfl, ⟨g, rfl, hg, hgl, hgn⟩, hb3⟩
    have B3 := Lib.hid (B2.out.bl hb3)
    have k3 := B3.out.all3
    have Hb3 := Lib.hid (HW1b.out.trans (Hb2.out.trans hb3))
    have HG := Lib.hid hg; have Hgl := Lib.hid hgl
    have hgne : g ≠ w.heap.size + 1 := by omega
    clear hb3 hg hgl
    go_wp2_with fail
    obtain ⟨wS, hwS⟩ : ∃ x, x = ((w3.setCell ⟨w.heap.size + 1, 0, none⟩ (.int .i64 pW)).setCell ⟨w.heap.size + 1, 1, none⟩ (.int .i64 pH)).setCell ⟨w.heap.size + 1, 2, none⟩ (.slice (some ⟨g, 0, none⟩) (pW * pH) (pW * pH)) := ⟨_, rfl⟩
    have bS : Blk wS (w.heap.size + 1) 42 #[.int .i64 pW, .int .i64 pH, .slice (some ⟨g, 0, none⟩) (pW * pH) (pW * pH)] := by rw [hwS]; exact ((B3.out.set_ 0 _).set_ 1 _).set_ 2 _
    have bG : Blk wS g 4 (PB.map Value.bool).toArray := by rw [hwS]; exact ((HG.out.far hgne _).far hgne _).far hgne _
    have hS : Bl w wS := by rw [hwS]; exact ((Hb3.out.setCell (Nat.le_succ _) _).setCell (Nat.le_succ _) _).setCell (Nat.le_succ _) _
    rw [← hwS]
    have kF := bS.all3
    refine bodyPost_ret (v := .tuple #[.agg #[.int .i64 pW, .int .i64 pH, .slice (some ⟨g, 0, none⟩) (pW * pH) (pW * pH)], .int .i64 0]) (by simp [results, Tryz.results14, go_sem, kF]) rfl ⟨⟨_, _, _, _, _, rfl, Res.page rfl (by have := bG.reads (pW * pH) 1 (by simp [Hgl.out]); simpa using this) (fun ad h => by injection h with h; subst h; show w.heap.size ≤ g; omega)⟩, hS⟩
  · have q : (E != 0) = true := by simp [hz]
    have Hz := Lib.hid hz
    clear hz
    go_wp2_with fail
    obtain ⟨wS, hwS⟩ : ∃ x, x = ((w2.setCell ⟨w.heap.size + 1, 0, none⟩ (.int .i64 0)).setCell ⟨w.heap.size + 1, 1, none⟩ (.int .i64 0)).setCell ⟨w.heap.size + 1, 2, none⟩ (.slice none 0 0) := ⟨_, rfl⟩
    have bS : Blk wS (w.heap.size + 1) 42 #[.int .i64 0, .int .i64 0, .slice none 0 0] := by rw [hwS]; exact ((B2.out.set_ 0 _).set_ 1 _).set_ 2 _
    have hS : Bl w wS := by rw [hwS]; exact (((HW1b.out.trans Hb2.out).setCell (Nat.le_succ _) _).setCell (Nat.le_succ _) _).setCell (Nat.le_succ _) _
    rw [← hwS]
    have kF := bS.all3
    refine bodyPost_ret (v := .tuple #[.agg #[.int .i64 0, .int .i64 0, .slice none 0 0], .int .i64 E]) (by simp [results, Tryz.results14, go_sem, kF]) rfl ⟨⟨_, _, _, _, _, rfl, Res.zero _ _ _ _ _ Hz.out⟩, hS⟩

set_option maxRecDepth 100000 in
set_option maxHeartbeats 2000000 in
theorem sized_any (f : Frm) (bW bH : Int) (C : Option Addr) (n cc : Nat) (w : World) :
    Calls Tryz.prog 20 #[f.val, .agg #[.int .i64 bW, .int .i64 bH, .slice C n cc]] w fun e w' => e = .returned (.int .i64 (pageE f.W f.H bW bH n)) ∧ Bl w w' := by
  obtain ⟨nm, fW, fH, reach, dark, AL, ac, la, FL, fc, lf, RL, rc, lr⟩ := f
  show Calls _ _ _ w fun e w' => e = .returned (.int .i64 (pageE fW fH bW bH n)) ∧ Bl w w'
  obtain ⟨E, hE⟩ : ∃ e, e = pageE fW fH bW bH n := ⟨_, rfl⟩
  rw [← hE]
  let w1 := ((w).alloc (.cells #[.string ⟨nm.toArray⟩, .int .i64 fW, .int .i64 fH, .int .i64 reach, .int .i64 dark, .slice AL la.length ac, .slice FL lf.length fc, .slice RL lr.length rc] 26)).alloc (.cells #[.int .i64 bW, .int .i64 bH, .slice C n cc] 42)
  have w1b : Bl w w1 := ((Bl.refl w).alloc _).alloc _
  have w11 : Blk w1 (w.heap.size) 26 #[.string ⟨nm.toArray⟩, .int .i64 fW, .int .i64 fH, .int .i64 reach, .int .i64 dark, .slice AL la.length ac, .slice FL lf.length fc, .slice RL lr.length rc] := by
    have h0 := Blk.new (w) 26 #[.string ⟨nm.toArray⟩, .int .i64 fW, .int .i64 fH, .int .i64 reach, .int .i64 dark, .slice AL la.length ac, .slice FL lf.length fc, .slice RL lr.length rc]
    exact (h0.alloc _)
  have w12 : Blk w1 (w.heap.size + 1) 42 #[.int .i64 bW, .int .i64 bH, .slice C n cc] := by
    have h0 := Blk.new ((w).alloc (.cells #[.string ⟨nm.toArray⟩, .int .i64 fW, .int .i64 fH, .int .i64 reach, .int .i64 dark, .slice AL la.length ac, .slice FL lf.length fc, .slice RL lr.length rc] 26)) 42 #[.int .i64 bW, .int .i64 bH, .slice C n cc]
    simp only [World.size_alloc] at h0
    exact h0
  have k1 := w11.all8
  have k2 := w12.all3
  have HW1b := Lib.hid w1b
  have Hck := Lib.hid (fun wx => bitsError_any bW bH C n cc wx)
  obtain ⟨PE, hPE⟩ : ∃ e, e = pageErr bW bH n := ⟨_, rfl⟩
  rw [← hPE] at Hck
  have HE := Lib.hid (show E = firstNZ [PE, whenI (!decide (bW = fW) || !decide (bH = fH)) 11] by
    rw [hE, hPE]
    unfold pageE
    rw [firstNZ_pair])
  unfold Frm.val
  clear w1b hE hPE
  go_enter Tryz.func20, Tryz.ntmps20
  go_upto_region 1 with fail
  rw [show (w.alloc (.cells #[.string ⟨nm.toArray⟩, .int .i64 fW, .int .i64 fH, .int .i64 reach, .int .i64 dark, .slice AL la.length ac, .slice FL lf.length fc, .slice RL lr.length rc] 26)).alloc (.cells #[.int .i64 bW, .int .i64 bH, .slice C n cc] 42) = w1 from rfl]
  clear_value w1
  obtain ⟨d1, hd1⟩ : ∃ b, b = (bW != fW) := ⟨_, rfl⟩
  obtain ⟨d2, hd2⟩ : ∃ b, b = (bH != fH) := ⟨_, rfl⟩
  have HD := Lib.hid (show (!decide (bW = fW) || !decide (bH = fH)) = (d1 || d2) by rw [hd1, hd2]; by_cases c1 : bW = fW <;> by_cases c2 : bH = fH <;> simp [c1, c2])
  have hd1' := hd1.symm
  have hd2' := hd2.symm
  clear hd1 hd2
  cases d1 with
  | true =>
    have HX := Lib.hid (show E = firstNZ [PE, whenI true 11] by rw [HE.out, HD.out]; rfl)
    refine wp_region_flow [(true, 0), (true, 2), (true, 3), (true, 4), (true, 5), (true, 6), (false, 1), (true, 7), (true, 8), (true, 9), (true, 10), (true, 11), (true, 12), (true, 13), (false, 14), (false, 15), (false, 16), (true, 17)] (fun _ => false) (by kernel_rfl) (by kernel_rfl) (by kernel_rfl) (by kernel_rfl) ?_
    iterate 1
      apply Flow.calm2 _ _ rfl rfl
      · intro w' hb' K' hK'
        obtain ⟨hc', hf'⟩ := hb'.rule
        go_simp
        try go_ints
        exact hK'
      · intro K' hK'
        simp only [Act.put, List.setIfInBounds_toArray, List.set_cons_zero, List.set_cons_succ]
        exact hK'
    iterate 1
      apply Flow.calm2 _ _ rfl rfl
      · intro w' hb' K' hK'
        obtain ⟨hc', hf'⟩ := hb'.rule
        go_simp
        try go_ints
        exact hK'
      · intro K' hK'
        simp only [Act.put, List.setIfInBounds_toArray, List.set_cons_zero, List.set_cons_succ]
        exact hK'
    iterate 1
      apply Flow.calm2 _ _ rfl rfl
      · intro w' hb' K' hK'
        obtain ⟨hc', hf'⟩ := hb'.rule
        go_simp
        try go_ints
        exact hK'
      · intro K' hK'
        simp only [Act.put, List.setIfInBounds_toArray, List.set_cons_zero, List.set_cons_succ]
        exact hK'
    iterate 1
      apply Flow.calm2 _ _ rfl rfl
      · intro w' hb' K' hK'
        obtain ⟨hc', hf'⟩ := hb'.rule
        go_simp
        try go_ints
        exact hK'
      · intro K' hK'
        simp only [Act.put, List.setIfInBounds_toArray, List.set_cons_zero, List.set_cons_succ]
        exact hK'
    iterate 1
      apply Flow.calm2 _ _ rfl rfl
      · intro w' hb' K' hK'
        obtain ⟨hc', hf'⟩ := hb'.rule
        go_simp
        try go_ints
        exact hK'
      · intro K' hK'
        simp only [Act.put, List.setIfInBounds_toArray, List.set_cons_zero, List.set_cons_succ]
        exact hK'
    iterate 1
      apply Flow.calm2 _ _ rfl rfl
      · intro w' hb' K' hK'
        obtain ⟨hc', hf'⟩ := hb'.rule
        go_simp
        try go_ints
        exact hK'
      · intro K' hK'
        simp only [Act.put, List.setIfInBounds_toArray, List.set_cons_zero, List.set_cons_succ]
        exact hK'
    apply Flow.move rfl
    go_wp2_with fail
    refine (Hck.out _).mono ?_
    rintro e w2 ⟨rfl, HB1⟩
    have k1 := (w11.bl ((Bl.refl _).drew.trans HB1)).all8
    have k2 := (w12.bl ((Bl.refl _).drew.trans HB1)).all3
    go_wp2_with fail
    refine ⟨fun _ => (by first | exact HB1 | exact Bl.refl _), ?_⟩
    iterate 1
      apply Flow.mv _ rfl
      · intro K' hK'
        simp only [Act.put, Act.eval, List.setIfInBounds_toArray, List.set_cons_zero, List.set_cons_succ, arr_getD, List.getD_cons_zero, List.getD_cons_succ]
        exact hK'
    first
      | (apply Flow.pass rfl (by rfl))
      | (apply Flow.calmG _ rfl (by rfl)
         · intro w' hb'
           obtain ⟨hc', hf'⟩ := hb'.rule
           go_simp
           all_goals (try rfl))
    simp only [Act.put, List.setIfInBounds_toArray, List.set_cons_zero, List.set_cons_succ]
    try go_ints
    first
      | (apply Flow.pass rfl (by rfl))
      | (apply Flow.calmG _ rfl (by rfl)
         · intro w' hb'
           obtain ⟨hc', hf'⟩ := hb'.rule
           go_simp
           all_goals (try rfl))
    simp only [Act.put, List.setIfInBounds_toArray, List.set_cons_zero, List.set_cons_succ]
    try go_ints
    first
      | (apply Flow.pass rfl (by rfl))
      | (apply Flow.calmG _ rfl (by rfl)
         · intro w' hb'
           obtain ⟨hc', hf'⟩ := hb'.rule
           go_simp
           all_goals (try rfl))
    simp only [Act.put, List.setIfInBounds_toArray, List.set_cons_zero, List.set_cons_succ]
    try go_ints
    first
      | (apply Flow.pass rfl (by rfl))
      | (apply Flow.calmG _ rfl (by rfl)
         · intro w' hb'
           obtain ⟨hc', hf'⟩ := hb'.rule
           go_simp
           all_goals (try rfl))
    simp only [Act.put, List.setIfInBounds_toArray, List.set_cons_zero, List.set_cons_succ]
    try go_ints
    first
      | (apply Flow.pass rfl (by rfl))
      | (apply Flow.calmG _ rfl (by rfl)
         · intro w' hb'
           obtain ⟨hc', hf'⟩ := hb'.rule
           go_simp
           all_goals (try rfl))
    simp only [Act.put, List.setIfInBounds_toArray, List.set_cons_zero, List.set_cons_succ]
    try go_ints
    iterate 1
      apply Flow.calm2 _ _ rfl rfl
      · intro w' hb' K' hK'
        obtain ⟨hc', hf'⟩ := hb'.rule
        go_simp
        try go_ints
        exact hK'
      · intro K' hK'
        simp only [Act.put, List.setIfInBounds_toArray, List.set_cons_zero, List.set_cons_succ]
        exact hK'
    apply Flow.move rfl
    go_wp2_with fail
    refine (when_any _ _ _).mono ?_
    rintro e w3 ⟨rfl, rfl⟩
    go_wp2_with fail
    refine ⟨fun _ => (by first | exact HB2 | exact Bl.refl _), ?_⟩
    apply Flow.move rfl
    go_wp2_with fail
    first | refine ⟨fun _ => ?_, ?_⟩ | refine ⟨?_, ?_⟩
    · repeat' (first | exact Bl.refl _ | refine Bl.drewL ?_ | refine Bl.drew ?_ | refine Bl.alloc ?_ _)
    apply Flow.move rfl
    go_wp2_with fail
    refine (first2_any _ _ _ _ (Blk.new _ _ _)).mono ?_
    rintro e w4 ⟨rfl, rfl⟩
    go_wp2_with fail
    refine ⟨fun _ => (by first | exact HB4 | exact Bl.refl _), ?_⟩
    iterate 1
      apply Flow.asg _ rfl
      · intro K' hK'
        simp only [Act.put, Act.eval, List.setIfInBounds_toArray, List.set_cons_zero, List.set_cons_succ, arr_getD, List.getD_cons_zero, List.getD_cons_succ]
        exact hK'
    refine Flow.done ?_
    go_wp2_with fail
    go_ret
    exact ⟨by rw [HX.out] <;> rfl, HW1b.out.trans (((Bl.refl _).drew.trans HB1).alloc _)⟩
  | false =>
    cases d2 with
    | true =>
      have HX := Lib.hid (show E = firstNZ [PE, whenI true 11] by rw [HE.out, HD.out]; rfl)
      refine wp_region_flow [(true, 0), (true, 2), (true, 3), (true, 4), (true, 5), (true, 6), (false, 1), (true, 7), (true, 8), (true, 9), (true, 10), (true, 11), (true, 12), (true, 13), (false, 14), (false, 15), (false, 16), (true, 17)] (fun _ => false) (by kernel_rfl) (by kernel_rfl) (by kernel_rfl) (by kernel_rfl) ?_
      iterate 1
        apply Flow.calm2 _ _ rfl rfl
        · intro w' hb' K' hK'
          obtain ⟨hc', hf'⟩ := hb'.rule
          go_simp
          try go_ints
          exact hK'
        · intro K' hK'
          simp only [Act.put, List.setIfInBounds_toArray, List.set_cons_zero, List.set_cons_succ]
          exact hK'
      iterate 1
        apply Flow.calm2 _ _ rfl rfl
        · intro w' hb' K' hK'
          obtain ⟨hc', hf'⟩ := hb'.rule
          go_simp
          try go_ints
          exact hK'
        · intro K' hK'
          simp only [Act.put, List.setIfInBounds_toArray, List.set_cons_zero, List.set_cons_succ]
          exact hK'
      iterate 1
        apply Flow.calm2 _ _ rfl rfl
        · intro w' hb' K' hK'
          obtain ⟨hc', hf'⟩ := hb'.rule
          go_simp
          try go_ints
          exact hK'
        · intro K' hK'
          simp only [Act.put, List.setIfInBounds_toArray, List.set_cons_zero, List.set_cons_succ]
          exact hK'
      iterate 1
        apply Flow.calm2 _ _ rfl rfl
        · intro w' hb' K' hK'
          obtain ⟨hc', hf'⟩ := hb'.rule
          go_simp
          try go_ints
          exact hK'
        · intro K' hK'
          simp only [Act.put, List.setIfInBounds_toArray, List.set_cons_zero, List.set_cons_succ]
          exact hK'
      iterate 1
        apply Flow.calm2 _ _ rfl rfl
        · intro w' hb' K' hK'
          obtain ⟨hc', hf'⟩ := hb'.rule
          go_simp
          try go_ints
          exact hK'
        · intro K' hK'
          simp only [Act.put, List.setIfInBounds_toArray, List.set_cons_zero, List.set_cons_succ]
          exact hK'
      iterate 1
        apply Flow.calm2 _ _ rfl rfl
        · intro w' hb' K' hK'
          obtain ⟨hc', hf'⟩ := hb'.rule
          go_simp
          try go_ints
          exact hK'
        · intro K' hK'
          simp only [Act.put, List.setIfInBounds_toArray, List.set_cons_zero, List.set_cons_succ]
          exact hK'
      apply Flow.move rfl
      go_wp2_with fail
      refine (Hck.out _).mono ?_
      rintro e w2 ⟨rfl, HB1⟩
      have k1 := (w11.bl ((Bl.refl _).drew.trans HB1)).all8
      have k2 := (w12.bl ((Bl.refl _).drew.trans HB1)).all3
      go_wp2_with fail
      refine ⟨fun _ => (by first | exact HB1 | exact Bl.refl _), ?_⟩
      iterate 1
        apply Flow.mv _ rfl
        · intro K' hK'
          simp only [Act.put, Act.eval, List.setIfInBounds_toArray, List.set_cons_zero, List.set_cons_succ, arr_getD, List.getD_cons_zero, List.getD_cons_succ]
          exact hK'
      first
        | (apply Flow.pass rfl (by rfl))
        | (apply Flow.calmG _ rfl (by rfl)
           · intro w' hb'
             obtain ⟨hc', hf'⟩ := hb'.rule
             go_simp
             all_goals (try rfl))
      simp only [Act.put, List.setIfInBounds_toArray, List.set_cons_zero, List.set_cons_succ]
      try go_ints
      first
        | (apply Flow.pass rfl (by rfl))
        | (apply Flow.calmG _ rfl (by rfl)
           · intro w' hb'
             obtain ⟨hc', hf'⟩ := hb'.rule
             go_simp
             all_goals (try rfl))
      simp only [Act.put, List.setIfInBounds_toArray, List.set_cons_zero, List.set_cons_succ]
      try go_ints
      first
        | (apply Flow.pass rfl (by rfl))
        | (apply Flow.calmG _ rfl (by rfl)
           · intro w' hb'
             obtain ⟨hc', hf'⟩ := hb'.rule
             go_simp
             all_goals (try rfl))
      simp only [Act.put, List.setIfInBounds_toArray, List.set_cons_zero, List.set_cons_succ]
      try go_ints
      first
        | (apply Flow.pass rfl (by rfl))
        | (apply Flow.calmG _ rfl (by rfl)
           · intro w' hb'
             obtain ⟨hc', hf'⟩ := hb'.rule
             go_simp
             all_goals (try rfl))
      simp only [Act.put, List.setIfInBounds_toArray, List.set_cons_zero, List.set_cons_succ]
      try go_ints
      first
        | (apply Flow.pass rfl (by rfl))
        | (apply Flow.calmG _ rfl (by rfl)
           · intro w' hb'
             obtain ⟨hc', hf'⟩ := hb'.rule
             go_simp
             all_goals (try rfl))
      simp only [Act.put, List.setIfInBounds_toArray, List.set_cons_zero, List.set_cons_succ]
      try go_ints
      iterate 1
        apply Flow.calm2 _ _ rfl rfl
        · intro w' hb' K' hK'
          obtain ⟨hc', hf'⟩ := hb'.rule
          go_simp
          try go_ints
          exact hK'
        · intro K' hK'
          simp only [Act.put, List.setIfInBounds_toArray, List.set_cons_zero, List.set_cons_succ]
          exact hK'
      apply Flow.move rfl
      go_wp2_with fail
      refine (when_any _ _ _).mono ?_
      rintro e w3 ⟨rfl, rfl⟩
      go_wp2_with fail
      refine ⟨fun _ => (by first | exact HB2 | exact Bl.refl _), ?_⟩
      apply Flow.move rfl
      go_wp2_with fail
      first | refine ⟨fun _ => ?_, ?_⟩ | refine ⟨?_, ?_⟩
      · repeat' (first | exact Bl.refl _ | refine Bl.drewL ?_ | refine Bl.drew ?_ | refine Bl.alloc ?_ _)
      apply Flow.move rfl
      go_wp2_with fail
      refine (first2_any _ _ _ _ (Blk.new _ _ _)).mono ?_
      rintro e w4 ⟨rfl, rfl⟩
      go_wp2_with fail
      refine ⟨fun _ => (by first | exact HB4 | exact Bl.refl _), ?_⟩
      iterate 1
        apply Flow.asg _ rfl
        · intro K' hK'
          simp only [Act.put, Act.eval, List.setIfInBounds_toArray, List.set_cons_zero, List.set_cons_succ, arr_getD, List.getD_cons_zero, List.getD_cons_succ]
          exact hK'
      refine Flow.done ?_
      go_wp2_with fail
      go_ret
      exact ⟨by rw [HX.out] <;> rfl, HW1b.out.trans (((Bl.refl _).drew.trans HB1).alloc _)⟩
    | false =>
      have HX := Lib.hid (show E = firstNZ [PE, whenI false 11] by rw [HE.out, HD.out]; rfl)
      refine wp_region_flow [(true, 0), (true, 2), (true, 3), (true, 4), (true, 5), (true, 6), (false, 1), (true, 7), (true, 8), (true, 9), (true, 10), (true, 11), (true, 12), (true, 13), (false, 14), (false, 15), (false, 16), (true, 17)] (fun _ => false) (by kernel_rfl) (by kernel_rfl) (by kernel_rfl) (by kernel_rfl) ?_
      iterate 1
        apply Flow.calm2 _ _ rfl rfl
        · intro w' hb' K' hK'
          obtain ⟨hc', hf'⟩ := hb'.rule
          go_simp
          try go_ints
          exact hK'
        · intro K' hK'
          simp only [Act.put, List.setIfInBounds_toArray, List.set_cons_zero, List.set_cons_succ]
          exact hK'
      iterate 1
        apply Flow.calm2 _ _ rfl rfl
        · intro w' hb' K' hK'
          obtain ⟨hc', hf'⟩ := hb'.rule
          go_simp
          try go_ints
          exact hK'
        · intro K' hK'
          simp only [Act.put, List.setIfInBounds_toArray, List.set_cons_zero, List.set_cons_succ]
          exact hK'
      iterate 1
        apply Flow.calm2 _ _ rfl rfl
        · intro w' hb' K' hK'
          obtain ⟨hc', hf'⟩ := hb'.rule
          go_simp
          try go_ints
          exact hK'
        · intro K' hK'
          simp only [Act.put, List.setIfInBounds_toArray, List.set_cons_zero, List.set_cons_succ]
          exact hK'
      iterate 1
        apply Flow.calm2 _ _ rfl rfl
        · intro w' hb' K' hK'
          obtain ⟨hc', hf'⟩ := hb'.rule
          go_simp
          try go_ints
          exact hK'
        · intro K' hK'
          simp only [Act.put, List.setIfInBounds_toArray, List.set_cons_zero, List.set_cons_succ]
          exact hK'
      iterate 1
        apply Flow.calm2 _ _ rfl rfl
        · intro w' hb' K' hK'
          obtain ⟨hc', hf'⟩ := hb'.rule
          go_simp
          try go_ints
          exact hK'
        · intro K' hK'
          simp only [Act.put, List.setIfInBounds_toArray, List.set_cons_zero, List.set_cons_succ]
          exact hK'
      iterate 1
        apply Flow.calm2 _ _ rfl rfl
        · intro w' hb' K' hK'
          obtain ⟨hc', hf'⟩ := hb'.rule
          go_simp
          try go_ints
          exact hK'
        · intro K' hK'
          simp only [Act.put, List.setIfInBounds_toArray, List.set_cons_zero, List.set_cons_succ]
          exact hK'
      apply Flow.move rfl
      go_wp2_with fail
      refine (Hck.out _).mono ?_
      rintro e w2 ⟨rfl, HB1⟩
      have k1 := (w11.bl ((Bl.refl _).drew.trans HB1)).all8
      have k2 := (w12.bl ((Bl.refl _).drew.trans HB1)).all3
      go_wp2_with fail
      refine ⟨fun _ => (by first | exact HB1 | exact Bl.refl _), ?_⟩
      iterate 1
        apply Flow.mv _ rfl
        · intro K' hK'
          simp only [Act.put, Act.eval, List.setIfInBounds_toArray, List.set_cons_zero, List.set_cons_succ, arr_getD, List.getD_cons_zero, List.getD_cons_succ]
          exact hK'
      first
        | (apply Flow.pass rfl (by rfl))
        | (apply Flow.calmG _ rfl (by rfl)
           · intro w' hb'
             obtain ⟨hc', hf'⟩ := hb'.rule
             go_simp
             all_goals (try rfl))
      simp only [Act.put, List.setIfInBounds_toArray, List.set_cons_zero, List.set_cons_succ]
      try go_ints
      first
        | (apply Flow.pass rfl (by rfl))
        | (apply Flow.calmG _ rfl (by rfl)
           · intro w' hb'
             obtain ⟨hc', hf'⟩ := hb'.rule
             go_simp
             all_goals (try rfl))
      simp only [Act.put, List.setIfInBounds_toArray, List.set_cons_zero, List.set_cons_succ]
      try go_ints
      first
        | (apply Flow.pass rfl (by rfl))
        | (apply Flow.calmG _ rfl (by rfl)
           · intro w' hb'
             obtain ⟨hc', hf'⟩ := hb'.rule
             go_simp
             all_goals (try rfl))
      simp only [Act.put, List.setIfInBounds_toArray, List.set_cons_zero, List.set_cons_succ]
      try go_ints
      first
        | (apply Flow.pass rfl (by rfl))
        | (apply Flow.calmG _ rfl (by rfl)
           · intro w' hb'
             obtain ⟨hc', hf'⟩ := hb'.rule
             go_simp
             all_goals (try rfl))
      simp only [Act.put, List.setIfInBounds_toArray, List.set_cons_zero, List.set_cons_succ]
      try go_ints
      first
        | (apply Flow.pass rfl (by rfl))
        | (apply Flow.calmG _ rfl (by rfl)
           · intro w' hb'
             obtain ⟨hc', hf'⟩ := hb'.rule
             go_simp
             all_goals (try rfl))
      simp only [Act.put, List.setIfInBounds_toArray, List.set_cons_zero, List.set_cons_succ]
      try go_ints
      iterate 1
        apply Flow.calm2 _ _ rfl rfl
        · intro w' hb' K' hK'
          obtain ⟨hc', hf'⟩ := hb'.rule
          go_simp
          try go_ints
          exact hK'
        · intro K' hK'
          simp only [Act.put, List.setIfInBounds_toArray, List.set_cons_zero, List.set_cons_succ]
          exact hK'
      apply Flow.move rfl
      go_wp2_with fail
      refine (when_any _ _ _).mono ?_
      rintro e w3 ⟨rfl, rfl⟩
      go_wp2_with fail
      refine ⟨fun _ => (by first | exact HB2 | exact Bl.refl _), ?_⟩
      apply Flow.move rfl
      go_wp2_with fail
      first | refine ⟨fun _ => ?_, ?_⟩ | refine ⟨?_, ?_⟩
      · repeat' (first | exact Bl.refl _ | refine Bl.drewL ?_ | refine Bl.drew ?_ | refine Bl.alloc ?_ _)
      apply Flow.move rfl
      go_wp2_with fail
      refine (first2_any _ _ _ _ (Blk.new _ _ _)).mono ?_
      rintro e w4 ⟨rfl, rfl⟩
      go_wp2_with fail
      refine ⟨fun _ => (by first | exact HB4 | exact Bl.refl _), ?_⟩
      iterate 1
        apply Flow.asg _ rfl
        · intro K' hK'
          simp only [Act.put, Act.eval, List.setIfInBounds_toArray, List.set_cons_zero, List.set_cons_succ, arr_getD, List.getD_cons_zero, List.getD_cons_succ]
          exact hK'
      refine Flow.done ?_
      go_wp2_with fail
      go_ret
      exact ⟨by rw [HX.out] <;> rfl, HW1b.out.trans (((Bl.refl _).drew.trans HB1).alloc _)⟩
end Go.Proofs.YtahfkahfaiidgaaGreatDoor
