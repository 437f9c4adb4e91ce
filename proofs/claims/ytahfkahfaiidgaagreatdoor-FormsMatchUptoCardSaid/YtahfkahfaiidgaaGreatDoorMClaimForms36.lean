/- The law FormsMatch answers true. -/
import Derived.Test.YtahfkahfaiidgaaGreatDoorMClaimForms35

namespace Go.Proofs.YtahfkahfaiidgaaGreatDoor
open Go.RowKit Go.Shelf

set_option maxRecDepth 100000 in
theorem neq_fnd (a b c : Int) (w : World) : (binOp .neq 62 (.agg #[.int .i64 a, .int .i64 b, .int .i64 c]) (.agg #[.int .i64 a, .int .i64 b, .int .i64 c])).run Tryz.prog w = .ok (.bool false) w := by
  have u3 := Tryz.underlying3
  have a3 := Tryz.isAgg3
  have z3 := Tryz.sizeOf3
  rw [run_neq_struct, show (10000 : Nat) = 9999 + 1 from rfl, run_equalIn_agg w 9999 _ _ _ (by kernel_rfl) (by kernel_rfl)]
  simp only [Program.fieldsOf, Tryz.underlying62]
  go_simp
set_option maxRecDepth 100000 in
theorem eql_pt (a b : Int) (w : World) : (binOp .eql 47 (.agg #[.int .i64 a, .int .i64 b]) (.agg #[.int .i64 a, .int .i64 b])).run Tryz.prog w = .ok (.bool true) w := by
  have u3 := Tryz.underlying3
  have a3 := Tryz.isAgg3
  have z3 := Tryz.sizeOf3
  rw [run_eql_struct, show (10000 : Nat) = 9999 + 1 from rfl, run_equalIn_agg w 9999 _ _ _ (by kernel_rfl) (by kernel_rfl)]
  simp only [Program.fieldsOf, Tryz.underlying47]
  go_simp
set_option maxRecDepth 100000 in
set_option maxHeartbeats 1000000 in
theorem equalFnd_any (f : Frm) (cs : List Bool) (A B : Option Addr) (c d : Nat) (w : World) (hx : Reads w 3 A f.la.length (f.la.flatMap (fndCells f cs))) (hy : Reads w 3 B f.la.length (f.la.flatMap (fndCells f cs))) (hl : f.la.length ≤ 10) :
    Calls Tryz.prog 23 #[.slice A f.la.length c, .slice B f.la.length d] w fun e w' => e = .returned (.bool true) ∧ Bl w w' := by
  have Hx := Lib.hid hx; have Hy := Lib.hid hy
  clear hx hy
  go_enter Tryz.func23, Tryz.ntmps23
  go_wp2
  go_loopw [13] (fun v wr => ∃ k : Nat, k ≤ f.la.length ∧ v = .int .i64 k ∧ Bl w wr) (fun v _ => f.la.length - (RowKit.intOf v).toNat)
  case atStart => exact ⟨0, Nat.zero_le _, rfl, Bl.refl _⟩
  case round =>
    obtain ⟨k, hk, rfl, hbr⟩ := hrel
    by_cases hlt : k < f.la.length
    · obtain ⟨s, hg⟩ : ∃ s, f.la[k]? = some s := ⟨_, List.getElem?_eq_getElem hlt⟩
      obtain ⟨ad, rfl, c0, c1, c2⟩ := fnd_at2 (Hx.out.bl hbr) hg
      obtain ⟨bd, rfl, d0, d1, d2⟩ := fnd_at2 (Hy.out.bl hbr) hg
      generalize foundA f cs s = F at c0 c1 c2 d0 d1 d2
      obtain ⟨fx, fy, fn⟩ := F
      have hne := fun w' => neq_fnd fx fy fn w'
      have hi : (k : Int) < (f.la.length : Int) := by omega
      clear hg
      go_wp2
      refine wp_region_flow [(true, 0), (true, 1), (true, 2), (true, 3), (true, 4), (true, 5), (true, 6), (true, 7), (true, 8)] (fun _ => false) (by kernel_rfl) (by kernel_rfl) (by kernel_rfl) (by kernel_rfl) ?_
      iterate 2
        apply Flow.mv _ rfl
        · intro K' hK'
          simp only [Act.put, Act.eval, List.setIfInBounds_toArray, List.set_cons_zero, List.set_cons_succ, arr_getD, List.getD_cons_zero, List.getD_cons_succ]
          exact hK'
      iterate 1
        apply Flow.calm2 _ _ rfl rfl
        · intro w' hb' K' hK'
          obtain ⟨hc', hf'⟩ := hb'.rule
          go_simp
          try go_ints
          exact hK'
        · intro K' hK'
          simp only [Act.put, List.setIfInBounds_toArray, List.set_cons_zero, List.set_cons_succ]
          exact hK'
      iterate 1
        apply Flow.calm2 _ _ rfl rfl
        · intro w' hb' K' hK'
          obtain ⟨hc', hf'⟩ := hb'.rule
          go_simp
          try go_ints
          exact hK'
        · intro K' hK'
          simp only [Act.put, List.setIfInBounds_toArray, List.set_cons_zero, List.set_cons_succ]
          exact hK'
      iterate 2
        apply Flow.mv _ rfl
        · intro K' hK'
          simp only [Act.put, Act.eval, List.setIfInBounds_toArray, List.set_cons_zero, List.set_cons_succ, arr_getD, List.getD_cons_zero, List.getD_cons_succ]
          exact hK'
      iterate 1
        apply Flow.calm2 _ _ rfl rfl
        · intro w' hb' K' hK'
          obtain ⟨hc', hf'⟩ := hb'.rule
          go_simp
          try go_ints
          exact hK'
        · intro K' hK'
          simp only [Act.put, List.setIfInBounds_toArray, List.set_cons_zero, List.set_cons_succ]
          exact hK'
      iterate 1
        apply Flow.calm2 _ _ rfl rfl
        · intro w' hb' K' hK'
          obtain ⟨hc', hf'⟩ := hb'.rule
          go_simp
          try go_ints
          exact hK'
        · intro K' hK'
          simp only [Act.put, List.setIfInBounds_toArray, List.set_cons_zero, List.set_cons_succ]
          exact hK'
      iterate 1
        apply Flow.calm2 _ _ rfl rfl
        · intro w' hb' K' hK'
          obtain ⟨hc', hf'⟩ := hb'.rule
          go_simp
          try go_ints
          exact hK'
        · intro K' hK'
          simp only [Act.put, List.setIfInBounds_toArray, List.set_cons_zero, List.set_cons_succ]
          exact hK'
      refine Flow.done ?_
      go_wp2
      exact ⟨⟨k + 1, hlt, by go_num, hbr.drew⟩, by simp [RowKit.intOf] <;> omega⟩
    · go_wp2
      go_ret
      exact ⟨rfl, hbr⟩
set_option maxRecDepth 100000 in
set_option maxHeartbeats 1000000 in
theorem forms1_makes (p : Nat) (f : Frm) (w : World) (h0 : f.err = 0) (hF : FrmAt w f) (hp : Blk w p 26 #[.string ⟨f.name.toArray⟩, .int .i64 f.W, .int .i64 f.H, .int .i64 f.reach, .int .i64 f.dark, .slice f.AL f.la.length f.ac, .slice f.FL f.lf.length f.fc, .slice f.RL f.lr.length f.rc]) :
    MakesPage Tryz.prog 18 #[.pointer (some ⟨p, 0, none⟩)] w f.W.toNat f.H.toNat ((paperB f).map .bool) := by
  obtain ⟨W, H, r, hfit⟩ := fits_of h0
  have hpo := fun wx hF => paperOf_any f W H r wx hfit hF
  refine ⟨enters Tryz.func18 (by kernel_rfl) rfl, fun wx hx => ?_⟩
  obtain ⟨PB, hPB⟩ : ∃ b, b = paperTo W H f.la f.la.length := ⟨_, rfl⟩
  have hPB2 : paperB f = PB := by rw [hPB]; unfold paperB; rw [hfit.fW, hfit.fH, Int.toNat_natCast, Int.toNat_natCast]
  rw [hPB2, show f.W.toNat = W by rw [hfit.fW]; rfl, show f.H.toNat = H by rw [hfit.fH]; rfl]
  rw [← hPB] at hpo
  have hb5 : Bl wx (wx.alloc (.cells #[.int .i64 0, .int .i64 0, .slice none 0 0] 42)) := (Bl.refl wx).alloc _
  have b5 := Blk.new wx 42 #[.int .i64 0, .int .i64 0, .slice none 0 0]
  have l1 := (hp.bl hx).lt
  have k1 := (hp.bl hx).all8
  have hcall := hpo _ (hF.bl (hx.trans hb5))
  unfold Frm.val at hcall
  have Hcall := Lib.hid hcall
  clear hcall hpo hF hfit hPB hPB2 hp h0
  go_enter Tryz.func18, Tryz.ntmps18
  go_wp2_with fail
  refine Hcall.out.mono ?_
  rintro e w6 ⟨v, rfl, ⟨R, rc, rfl, hR, hRn⟩, hb6⟩
  have kr3 := (b5.bl hb6).all3
  have hle6 := hb5.trans hb6
  have hRn' : ∀ ad, R = some ad → wx.heap.size + 1 ≤ ad.block := fun ad h => by have := hRn ad h; simp at this; omega
  have HR := Lib.hid hR; have HRn := Lib.hid hRn'
  clear hR hRn hRn'
  go_wp2_with fail
  refine bodyPost_ret (v := .agg #[.int .i64 W, .int .i64 H, .slice R (W * H) rc]) (by simp [results, Tryz.results18, go_sem, kr3]) rfl ⟨_, rfl, ⟨R, rc, rfl, ?_⟩, ?_⟩
  · exact ((HR.out.store HRn.out (by simp) _).store HRn.out (by simp) _).store HRn.out (by simp) _
  · exact ((hle6.setCell (by simp) _).setCell (by simp) _).setCell (by simp) _
set_option maxRecDepth 100000 in
set_option maxHeartbeats 8000000 in
theorem lawForms_any (f : Frm) (bW bH : Int) (C : Option Addr) (n cc : Nat) (cs : List Bool) (w : World) (hF : FrmAt w f) (hS : f.small 1048576) (hN : NumOk w) (hC : SplitOk w) (hR : Reads w 1 C n (cs.map .bool)) :
    Calls Tryz.prog 4 #[f.val, .agg #[.int .i64 bW, .int .i64 bH, .slice C n cc]] w fun e w' => e = .returned (.bool true) ∧ Bl w w' := by
  have hfe := fun wx hF hN hC => formError_any f wx hF hS hN hC
  have hck := fun wx hF hN hC => checkF_any f wx hF hS hN hC
  have han := fun wx hF hN hC hR => anchorsPub_any f bW bH C n cc cs wx hF hS hN hC hR
  have hof := fun wx hF hN hC hR => offsetPub_any f bW bH C n cc cs wx hF hS hN hC hR
  have hpl := fun wx hF hN hC hR => placePub_any f bW bH C n cc cs wx hF hS hN hC hR
  have hpa := fun wx hF hN hC => paperPub_any f wx hF hS hN hC
  have hsz := fun wx => sized_any f bW bH C n cc wx
  have hmk := fun (h0 : f.err = 0) p wx hF hp => forms1_makes p f wx h0 hF hp
  have hli := fun (h0 : f.err = 0) wx => show Calls Tryz.prog 16 #[f.val] wx fun e w' => e = .returned (.bool (littleB f)) ∧ Bl wx w' by
    obtain ⟨W, H, r, hfit⟩ := fits_of h0
    exact little_any f W H r wx hfit
  have hfin := fun (h : wantF f bW bH n = 0) (hl : littleB f = true) => show ∃ W H r : Nat, bW = (W : Int) ∧ bH = (H : Int) ∧ n = W * H ∧ W * H ≤ 1048576 ∧ f.la.length ≤ 10 ∧
      (∀ a ∈ f.la, ∀ wx, Reads wx 1 a.A a.m (a.bs.map .bool) → Reads wx 1 C (W * H) (cs.map .bool) → Calls Tryz.prog 22 #[f.val, a.val, .agg #[.int .i64 W, .int .i64 H, .slice C (W * H) cc]] wx fun e w' => e = .returned (.agg #[.int .i64 (foundA f cs a).1, .int .i64 (foundA f cs a).2.1, .int .i64 (foundA f cs a).2.2]) ∧ Bl wx w') ∧
      (∀ wx, FrmAt wx f → Reads wx 1 C (W * H) (cs.map .bool) → Calls Tryz.prog 24 #[f.val, .agg #[.int .i64 W, .int .i64 H, .slice C (W * H) cc]] wx fun e w' => e = .returned (.agg #[.int .i64 (medI (offX f cs)), .int .i64 (medI (offY f cs))]) ∧ Bl wx w') ∧
      (∀ wx, FrmAt wx f → Reads wx 1 C (W * H) (cs.map .bool) → Calls Tryz.prog 26 #[f.val, .agg #[.int .i64 W, .int .i64 H, .slice C (W * H) cc]] wx fun e w' => ∃ v, e = .returned v ∧ IsPage w' v W H ((placeB f cs).map .bool) ∧ Bl wx w') by
    obtain ⟨-, W, H, r, hfit, e1, e2, e3⟩ := wantF_ok h
    have hr8 : r ≤ 8 := by
      unfold littleB at hl
      simp at hl
      have := hl.2.1
      have := hfit.fr
      omega
    refine ⟨W, H, r, e1, e2, e3, hfit.hWH, hfit.hla, fun a ha wx hA hR => ?_, fun wx hF hR => offsetOf_any f C cc cs W H r wx hfit hr8 hF hR, fun wx hF hR => placedOf_any f C cc cs W H r wx hfit hr8 hF hR⟩
    obtain ⟨BW, BH, q1, q2, q3, q4, q5, q6, q7, q8⟩ := hfit.at_ ha
    exact foundOf_any f a C cc cs W H BW BH r wx hfit.fW hfit.fH hfit.fr q1 q2 q3 hr8 hfit.hW hfit.hH q4 hA hR
  have hbd := fun (h : f.err = 0) => show f.W.toNat * f.H.toNat ≤ 1048576 by
    obtain ⟨W, H, r, hfit⟩ := fits_of h
    rw [hfit.fW, hfit.fH, Int.toNat_natCast, Int.toNat_natCast]
    exact hfit.hWH
  have heq := fun A B c d wx hx hy hl => equalFnd_any f cs A B c d wx hx hy hl
  obtain ⟨FE, hFE⟩ : ∃ y, y = f.err := ⟨_, rfl⟩
  obtain ⟨WE, hWE⟩ : ∃ y, y = wantF f bW bH n := ⟨_, rfl⟩
  obtain ⟨PE, hPE⟩ : ∃ y, y = pageE f.W f.H bW bH n := ⟨_, rfl⟩
  have hW2 : WE = if FE = 0 then PE else FE := by rw [hWE, hFE, hPE]; rfl
  obtain ⟨PP, hPP⟩ : ∃ y, y = offP f WE cs := ⟨_, rfl⟩
  have hP1 : WE = 0 → PP = (medI (offX f cs), medI (offY f cs)) := fun h => by rw [hPP]; unfold offP; rw [if_pos h]
  have hP2 : WE ≠ 0 → PP = (0, 0) := fun h => by rw [hPP]; unfold offP; rw [if_neg h]
  obtain ⟨LB, hLB⟩ : ∃ y, y = littleB f := ⟨_, rfl⟩
  rw [← hLB] at hli hfin
  rw [← hWE] at han hof hpl hfin
  rw [← hPP] at hof
  rw [← hFE] at hfe hck hpa hmk hli hbd
  rw [← hPE] at hsz
  obtain ⟨FA, hFA⟩ : ∃ o, o = foundA f cs := ⟨_, rfl⟩
  obtain ⟨FC, hFC⟩ : ∃ o, o = fndCells f cs := ⟨_, rfl⟩
  have hFC2 : ∀ a, FC a = [.int .i64 (FA a).1, .int .i64 (FA a).2.1, .int .i64 (FA a).2.2] := fun a => by rw [hFC, hFA]; rfl
  rw [← hFA] at hfin
  rw [← hFC] at heq
  obtain ⟨AR, hAR⟩ : ∃ o, o = AncRes f WE cs := ⟨_, rfl⟩
  have hAR2 : ∀ e w', AR e w' → ∃ A k c, e = .returned (.tuple #[.slice A k c, .int .i64 WE]) ∧ (WE ≠ 0 → k = 0) ∧ (WE = 0 → k = f.la.length ∧ Reads w' 3 A k (f.la.flatMap FC)) := fun e w' h => by rw [hAR] at h; rw [hFC]; exact h
  rw [← hAR] at han
  obtain ⟨PLB, hPLB⟩ : ∃ o, o = placeB f cs := ⟨_, rfl⟩
  rw [← hPLB] at hpl hfin
  obtain ⟨mx, hmx⟩ : ∃ o, o = medI (offX f cs) := ⟨_, rfl⟩
  obtain ⟨my, hmy⟩ : ∃ o, o = medI (offY f cs) := ⟨_, rfl⟩
  rw [← hmx, ← hmy] at hfin hP1
  obtain ⟨PAB, hPAB⟩ : ∃ o, o = paperB f := ⟨_, rfl⟩
  rw [← hPAB] at hpa hmk
  have hbi := fun (B : Nat) (wx : World) (a b : Int) (R : Option Addr) (m c k : Nat) (hv : Res B wx FE f.W.toNat f.H.toNat (PAB.map .bool) a b R m c) hF hk => bitsIs_any B FE f.W.toNat f.H.toNat PAB a b R m c 18 #[.pointer (some ⟨k, 0, none⟩)] wx hv (fun h => hmk h k wx hF hk) (fun h => by have := hbd h; omega)
  obtain ⟨nm, fW, fH, reach, dark, AL, ac, la, FL, fc, lf, RL, rc, lr⟩ := f
  let w1 := ((w).alloc (.cells #[.string ⟨nm.toArray⟩, .int .i64 fW, .int .i64 fH, .int .i64 reach, .int .i64 dark, .slice AL la.length ac, .slice FL lf.length fc, .slice RL lr.length rc] 26)).alloc (.cells #[.int .i64 bW, .int .i64 bH, .slice C n cc] 42)
  have w1b : Bl w w1 := ((Bl.refl w).alloc _).alloc _
  have w11 : Blk w1 (w.heap.size) 26 #[.string ⟨nm.toArray⟩, .int .i64 fW, .int .i64 fH, .int .i64 reach, .int .i64 dark, .slice AL la.length ac, .slice FL lf.length fc, .slice RL lr.length rc] := by
    have h0 := Blk.new (w) 26 #[.string ⟨nm.toArray⟩, .int .i64 fW, .int .i64 fH, .int .i64 reach, .int .i64 dark, .slice AL la.length ac, .slice FL lf.length fc, .slice RL lr.length rc]
    exact (h0.alloc _)
  have w12 : Blk w1 (w.heap.size + 1) 42 #[.int .i64 bW, .int .i64 bH, .slice C n cc] := by
    have h0 := Blk.new ((w).alloc (.cells #[.string ⟨nm.toArray⟩, .int .i64 fW, .int .i64 fH, .int .i64 reach, .int .i64 dark, .slice AL la.length ac, .slice FL lf.length fc, .slice RL lr.length rc] 26)) 42 #[.int .i64 bW, .int .i64 bH, .slice C n cc]
    simp only [World.size_alloc] at h0
    exact h0
  unfold Frm.val at hfe hck han hof hpl hpa hsz hli hfin
  have Hfe := Lib.hid hfe; have Hck := Lib.hid hck; have Han := Lib.hid han; have Hof := Lib.hid hof; have Hpl := Lib.hid hpl; have Hpa := Lib.hid hpa; have Hsz := Lib.hid hsz; have Hli := Lib.hid hli; have Hfin := Lib.hid hfin; have Hbi := Lib.hid hbi; have Heq := Lib.hid heq
  have HW2 := Lib.hid hW2; have HP1 := Lib.hid hP1; have HP2 := Lib.hid hP2; have HAR2 := Lib.hid hAR2; have HFC2 := Lib.hid hFC2
  have HF := Lib.hid (hF.bl w1b); have HN := Lib.hid (hN.bl w1b); have HC := Lib.hid (hC.bl w1b); have HR := Lib.hid (hR.bl w1b)
  have Hfm := Lib.hid (fun wx hN hC => formed_any wx hN hC)
  have k1 := w11.all8
  have k2 := w12.all3
  have HW1b := Lib.hid w1b
  unfold Frm.val
  clear hfe hck han hof hpl hpa hsz hli hfin hbi heq hW2 hP1 hP2 hAR2 hFC2 hF hN hC hR w1b hmk hbd hFE hWE hPE hPP hLB hFA hFC hAR hPLB hmx hmy hPAB hS
  go_enter Tryz.func4, Tryz.ntmps4
  go_upto_region 1 with fail
  rw [show (w.alloc (.cells #[.string ⟨nm.toArray⟩, .int .i64 fW, .int .i64 fH, .int .i64 reach, .int .i64 dark, .slice AL la.length ac, .slice FL lf.length fc, .slice RL lr.length rc] 26)).alloc (.cells #[.int .i64 bW, .int .i64 bH, .slice C n cc] 42) = w1 from rfl]
  clear_value w1
  go_upto_region 2 with (go_at_call 6; refine (Hfe.out _ HF.out HN.out HC.out).mono ?_; rintro e w2 ⟨rfl, hb2⟩)
  have Hb2 := Lib.hid hb2
  have k1 := (w11.bl hb2).all8
  have k2 := (w12.bl hb2).all3
  clear hb2
  go_wp2_with fail
  refine (Han.out _ (HF.out.bl Hb2.out) (HN.out.bl Hb2.out) (HC.out.bl Hb2.out) (HR.out.bl Hb2.out)).mono ?_
  rintro e w3 ⟨har, hb3⟩
  obtain ⟨A3, n3, c3, rfl, hr31, hr32⟩ := HAR2.out _ _ har
  have Hb3 := Lib.hid (Hb2.out.trans hb3)
  have k1 := (w11.bl Hb3.out).all8
  have k2 := (w12.bl Hb3.out).all3
  have Hr31 := Lib.hid hr31; have Hr32 := Lib.hid hr32
  clear har hb3 hr31 hr32
  go_upto_region 4 with (go_at_call 12; refine (Hof.out _ (HF.out.bl Hb3.out) (HN.out.bl Hb3.out) (HC.out.bl Hb3.out) (HR.out.bl Hb3.out)).mono ?_; rintro e w4 ⟨rfl, hb4⟩)
  obtain ⟨px, py⟩ := PP
  simp only
  obtain ⟨w5, hw5⟩ : ∃ x, x = w4.alloc (.cells #[.int .i64 px, .int .i64 py] 47) := ⟨_, rfl⟩
  have b5 : Blk w5 w4.heap.size 47 #[.int .i64 px, .int .i64 py] := by rw [hw5]; exact Blk.new _ _ _
  have hb5 : Bl w4 w5 := by rw [hw5]; exact (Bl.refl _).alloc _
  rw [← hw5]
  have B5 := Lib.hid b5; have Hb5 := Lib.hid (Hb3.out.trans (hb4.trans hb5)); have Hb35 := Lib.hid (hb4.trans hb5)
  have k1 := (w11.bl Hb5.out).all8
  have k2 := (w12.bl Hb5.out).all3
  clear hw5 b5 hb5 hb4
  go_upto_region 5 with (go_at_call 13; refine (Hpl.out _ (HF.out.bl Hb5.out) (HN.out.bl Hb5.out) (HC.out.bl Hb5.out) (HR.out.bl Hb5.out)).mono ?_; rintro e w6 ⟨⟨pa, pb, pR, pm, pc, rfl, hpr⟩, hb6⟩)
  obtain ⟨w7, hw7⟩ : ∃ x, x = w6.alloc (.cells #[.int .i64 pa, .int .i64 pb, .slice pR pm pc] 42) := ⟨_, rfl⟩
  have b7 : Blk w7 w6.heap.size 42 #[.int .i64 pa, .int .i64 pb, .slice pR pm pc] := by rw [hw7]; exact Blk.new _ _ _
  have hb7 : Bl w6 w7 := by rw [hw7]; exact (Bl.refl _).alloc _
  rw [← hw7]
  have B7 := Lib.hid b7; have Hb7 := Lib.hid (Hb5.out.trans (hb6.trans hb7)); have Hb57 := Lib.hid (hb6.trans hb7); have Hpr := Lib.hid (hpr.bl hb7)
  have k1 := (w11.bl Hb7.out).all8
  clear hw7 b7 hb7 hb6 hpr k2
  go_upto_region 6 with (go_at_call 14; refine (Hpa.out _ (HF.out.bl Hb7.out) (HN.out.bl Hb7.out) (HC.out.bl Hb7.out)).mono ?_; rintro e w8 ⟨⟨qa, qb, qR, qm, qc, rfl, hqr⟩, hb8⟩)
  obtain ⟨w9, hw9⟩ : ∃ x, x = w8.alloc (.cells #[.int .i64 qa, .int .i64 qb, .slice qR qm qc] 42) := ⟨_, rfl⟩
  have b9 : Blk w9 w8.heap.size 42 #[.int .i64 qa, .int .i64 qb, .slice qR qm qc] := by rw [hw9]; exact Blk.new _ _ _
  have hb9 : Bl w8 w9 := by rw [hw9]; exact (Bl.refl _).alloc _
  rw [← hw9]
  have B9 := Lib.hid b9; have Hb9 := Lib.hid (Hb7.out.trans (hb8.trans hb9)); have Hb79 := Lib.hid (hb8.trans hb9); have Hqr := Lib.hid (hqr.bl hb9)
  have k1 := (w11.bl Hb9.out).all8
  clear hw9 b9 hb9 hb8 hqr
  have k2 := B9.out.all3
  go_cut [59] from 43 to 60 (fun s wc => s = .bool (decide (FE = 0) && !LB) ∧ Bl w9 wc)
  case first =>
    by_cases hz : FE = 0
    · have hq : (FE == 0) = true := by simp [hz]
      have hq2 : (FE != FE) = false := by simp
      have HX := Lib.hid (show (decide (FE = 0) && !LB) = !LB by rw [decide_eq_true hz]; rfl)
      have Hz := Lib.hid hz
      clear hz
      have hlb : (!LB) = false ∨ (!LB) = true := by cases LB <;> simp
      go_wp2_with (first | (go_at_call 8; refine (Hfm.out _ (HN.out.bl Hb9.out) (HC.out.bl Hb9.out)).mono ?_; rintro e wa ⟨rfl, hba⟩; have k1 := (w11.bl (Hb9.out.trans hba)).all8) | (go_at_call 15; refine (Hck.out _ (HF.out.bl (Hb9.out.trans hba)) (HN.out.bl (Hb9.out.trans hba)) (HC.out.bl (Hb9.out.trans hba))).mono ?_; rintro e wb ⟨rfl, hbb⟩; have k1 := (w11.bl (Hb9.out.trans (hba.trans hbb))).all8) | (go_at_call 16; refine (Hli.out Hz.out _).mono ?_; rintro e wd ⟨rfl, hbd⟩))
      go_meet
      case rel => exact ⟨by rw [HX.out], hba.trans (hbb.trans hbd)⟩
    · have hq : (FE == 0) = false := by simp [hz]
      have hq2 : (FE != FE) = false := by simp
      have HX := Lib.hid (show (decide (FE = 0) && !LB) = false by rw [decide_eq_false hz]; rfl)
      clear hz
      go_wp2_with (first | (go_at_call 8; refine (Hfm.out _ (HN.out.bl Hb9.out) (HC.out.bl Hb9.out)).mono ?_; rintro e wa ⟨rfl, hba⟩; have k1 := (w11.bl (Hb9.out.trans hba)).all8) | (go_at_call 15; refine (Hck.out _ (HF.out.bl (Hb9.out.trans hba)) (HN.out.bl (Hb9.out.trans hba)) (HC.out.bl (Hb9.out.trans hba))).mono ?_; rintro e wb ⟨rfl, hbb⟩))
      go_meet
      case rel => exact ⟨by rw [HX.out], hba.trans hbb⟩
  case rest =>
  rename World => w10
  obtain ⟨rfl, hb10⟩ := hcut
  have Hb10 := Lib.hid (Hb9.out.trans hb10)
  have k1 := (w11.bl Hb10.out).all8
  have B9 := Lib.hid (B9.out.bl hb10)
  have k2 := B9.out.all3
  have Hb79 := Lib.hid (Hb79.out.trans hb10); have Hqr := Lib.hid (Hqr.out.bl hb10)
  clear hb10
  by_cases hearly : (decide (FE = 0) && !LB) = true
  · have hq2 : (FE == FE) = true := by simp
    rw [hearly]
    clear hearly
    go_wp2_with (first | (go_at_call 8; refine (Hfm.out _ (HN.out.bl Hb10.out) (HC.out.bl Hb10.out)).mono ?_; rintro e wa ⟨rfl, hba⟩; have k1 := (w11.bl (Hb10.out.trans hba)).all8) | (go_at_call 15; refine (Hck.out _ (HF.out.bl (Hb10.out.trans hba)) (HN.out.bl (Hb10.out.trans hba)) (HC.out.bl (Hb10.out.trans hba))).mono ?_; rintro e wb ⟨rfl, hbb⟩))
    go_ret
    exact ⟨by simp, HW1b.out.trans (Hb10.out.trans (hba.trans hbb))⟩
  have HLb := Lib.hid (show FE = 0 → LB = true from fun h => by
    rw [decide_eq_true h] at hearly
    simpa using hearly)
  rw [show (decide (FE = 0) && !LB) = false by simpa using hearly]
  clear hearly
  go_upto_region 10 with (go_at_call 17; refine (Hbi.out _ _ _ _ _ _ _ _ Hqr.out (HF.out.bl Hb10.out) (w11.bl Hb10.out)).mono ?_; rintro e w12' ⟨rfl, hb12⟩)
  have Hb12 := Lib.hid (Hb10.out.trans hb12); have Hb712 := Lib.hid (Hb79.out.trans hb12)
  have k1 := (w11.bl Hb12.out).all8
  have k3 := (w12.bl Hb12.out).all3
  clear hb12 k2
  go_upto_if 75 with fail
  go_cut [14] from 75 to 79 (fun s wc => s = .int .i64 WE ∧ Bl w12' wc)
  case first =>
    by_cases hz : FE = 0
    · have hq : (FE == 0) = true := by simp [hz]
      have HX := Lib.hid (show WE = PE by rw [HW2.out, if_pos hz])
      clear hz
      go_wp2_with (go_at_call 20; refine (Hsz.out _).mono ?_; rintro e wa ⟨rfl, hba⟩)
      go_meet
      case rel => exact ⟨by rw [HX.out], hba⟩
    · have hq : (FE == 0) = false := by simp [hz]
      have HX := Lib.hid (show WE = FE by rw [HW2.out, if_neg hz])
      clear hz
      go_wp2_with fail
      go_meet
      case rel => exact ⟨by rw [HX.out], Bl.refl _⟩
  case rest =>
  rename World => w13'
  obtain ⟨rfl, hb13⟩ := hcut
  have Hb13 := Lib.hid (Hb12.out.trans hb13); have Hb713 := Lib.hid (Hb712.out.trans hb13)
  have k1 := (w11.bl Hb13.out).all8
  have k2 := (w12.bl Hb13.out).all3
  have B5 := Lib.hid (B5.out.bl (Hb57.out.trans Hb713.out)); have B7 := Lib.hid (B7.out.bl Hb713.out)
  have k4 := B5.out.all2
  have k5 := B7.out.all3
  clear hb13 k3
  by_cases hz : WE ≠ 0
  · have hq : (WE != 0) = true := by simp [hz]
    have hq2 : (WE == WE) = true := by simp
    obtain rfl : n3 = 0 := Hr31.out hz
    have hp := HP2.out hz
    simp only [Prod.mk.injEq] at hp
    obtain ⟨rfl, rfl⟩ := hp
    obtain ⟨rfl, rfl, rfl, rfl, rfl⟩ := Hpr.out.2 hz
    have hep := fun w => eql_pt 0 0 w
    clear hz
    go_wp2_with (go_at_call 21; refine (noBits_zero _).mono ?_; rintro e wa ⟨rfl, hba⟩)
    go_ret
    exact ⟨by simp, HW1b.out.trans (Hb13.out.trans hba)⟩
  · have hz0 : WE = 0 := Classical.not_not.1 hz
    have hfe0 : FE = 0 := by
      apply Classical.byContradiction
      intro hn
      have h := HW2.out
      rw [if_neg hn] at h
      exact hn (h.symm.trans hz0)
    obtain ⟨W, H, r, rfl, rfl, rfl, hWH, hl10, hfo, hofR, hplR⟩ := Hfin.out hz0 (HLb.out hfe0)
    obtain ⟨rfl, hr3⟩ := Hr32.out hz0
    have hp := HP1.out hz0
    simp only [Prod.mk.injEq] at hp
    obtain ⟨rfl, rfl⟩ := hp
    obtain ⟨A7, c7, e7, hr7, -⟩ := Hpr.out.1 hz0
    simp only [Int.toNat_natCast, Value.agg.injEq, Array.mk.injEq, List.cons.injEq, Value.int.injEq, Value.slice.injEq, and_true, true_and] at e7
    obtain ⟨rfl, rfl, rfl, rfl, rfl⟩ := e7
    simp only [Int.toNat_natCast] at hr7
    have hq : (WE != 0) = false := by simp [hz0]
    have hq2 : (WE == 0) = true := by simp [hz0]
    have Hfo := Lib.hid hfo; have HofR := Lib.hid hofR; have HplR := Lib.hid hplR
    have Hr3 := Lib.hid (hr3.bl (Hb35.out.trans (Hb57.out.trans Hb713.out))); have Hr7 := Lib.hid (hr7.bl Hb713.out)
    have HFA := Lib.hid (AncsAt.bl HF.out.ancs Hb13.out)
    clear hz hz0 hfe0 hfo hofR hplR hr3 hr7
    go_wp2_with fail
    go_loopw [15, 111] (fun b u wr => ∃ i : Nat, i ≤ la.length ∧ u = .int .i64 i ∧ Bl w13' wr ∧ wr.ownsRow w13'.heap.size 62 3 b i ((la.take i).flatMap FC)) (fun _ u _ => la.length - (RowKit.intOf u).toNat)
    case atStart => exact ⟨0, Nat.zero_le _, rfl, Bl.refl _, World.ownsRow_nil _ _ _ _⟩
    case round =>
      clear k1 k2 k4 k5
      rename World => wr
      obtain ⟨i, hi, rfl, hbr, hown⟩ := hrel
      by_cases hlt : i < la.length
      · have hg : la[i]? = some la[i] := List.getElem?_eq_getElem hlt
        obtain ⟨a, ha2⟩ : ∃ l, l = la[i] := ⟨_, rfl⟩
        rw [← ha2] at hg
        obtain ⟨ad, e1, j1, j2, j3, j4, j5⟩ := (HFA.out.bl hbr).at_ hg
        subst e1
        have HAr := Lib.hid (HFA.out.2 a (List.mem_of_getElem? hg))
        have hfo2 := fun wx hA hC => Hfo.out a (List.mem_of_getElem? hg) wx hA hC
        obtain ⟨fx, hfx⟩ : ∃ z, z = (FA a).1 := ⟨_, rfl⟩
        obtain ⟨fy, hfy⟩ : ∃ z, z = (FA a).2.1 := ⟨_, rfl⟩
        obtain ⟨fn, hfn⟩ : ∃ z, z = (FA a).2.2 := ⟨_, rfl⟩
        have hfa := HFC2.out a
        rw [← hfx, ← hfy, ← hfn] at hfo2 hfa
        unfold Anc.val at hfo2
        have Hfo2 := Lib.hid hfo2; have HG := Lib.hid hg; have HOw := Lib.hid hown; have Hbr := Lib.hid hbr; have Hfa := Lib.hid hfa
        have k1 := (w11.bl (Hb13.out.trans hbr)).all8
        clear hg ha2 hfo2 hown hbr hfx hfy hfn hfa
        go_upto_region 19 with fail
        obtain ⟨w5', hw5⟩ : ∃ x, x = wr.alloc (.cells #[.int .i64 a.W, .int .i64 a.H, .slice a.A a.m a.c, .int .i64 a.X, .int .i64 a.Y] 60) := ⟨_, rfl⟩
        have b5 : Blk w5' wr.heap.size 60 #[.int .i64 a.W, .int .i64 a.H, .slice a.A a.m a.c, .int .i64 a.X, .int .i64 a.Y] := by rw [hw5]; exact Blk.new _ _ _
        have hb5 : Bl wr w5' := by rw [hw5]; exact (Bl.refl _).alloc _
        rw [← hw5]
        have Hb5' := Lib.hid (Hbr.out.trans hb5); have Hbr5 := Lib.hid hb5
        have k1 := (w11.bl (Hb13.out.trans Hb5'.out)).all8
        have k2 := (w12.bl (Hb13.out.trans Hb5'.out)).all3
        have k3 := b5.all5
        clear hw5 b5 hb5 j1 j2 j3 j4 j5
        go_wp2_with fail
        refine (Hfo2.out _ (HAr.out.bl Hb5'.out) (HR.out.bl (Hb13.out.trans Hb5'.out))).mono ?_
        rintro e w6' ⟨rfl, hb6⟩
        have Hb6 := Lib.hid (Hb5'.out.trans hb6)
        have hle6 := (Hb5'.out.trans hb6).le
        have HO6 := Lib.hid (own_bl HOw.out (Hbr5.out.trans hb6))
        clear k1 k2 k3 hb6
        go_wp2_with (at_builtin; refine wpList_append_bl (w1 := w13') rfl (.tmp 115) (.tmp 120) 43 rfl 62 (.agg #[.int .i64 0, .int .i64 0, .int .i64 0]) 3 24 Tryz.underlying43 info_found rfl (by omega) w13'.heap.size u15 i ((la.take i).flatMap FC) rfl (Hb6.out.alloc _) (Nat.le_refl _) (by simp; omega) (HO6.out.alloc _) (some ⟨w6'.heap.size, 0, none⟩) 1 1 [.int .i64 fx, .int .i64 fy, .int .i64 fn] rfl ((Blk.new w6' _ _).reads 1 3 rfl) (by simp [Value.oneCell']) (by unfold maxLen; omega) (by omega) ?_; intro v' w8' hown8 hb8 hg8; have HOw8 := Lib.hid hown8; have Hb8 := Lib.hid hb8; clear hown8 hb8 hg8)
        exact ⟨⟨i + 1, hlt, by go_num, Hb8.out, by rw [take_snoc HG.out, List.flatMap_append, show [a].flatMap FC = FC a by simp, Hfa.out]; exact HOw8.out⟩, by simp [RowKit.intOf]; omega⟩
      · obtain rfl : i = la.length := by omega
        rw [List.take_length] at hown
        obtain ⟨A15, c15, rfl, hr15, -⟩ := own_new hown
        have Hr15 := Lib.hid hr15; have Hbr := Lib.hid hbr; have Hb1r := Lib.hid (Hb13.out.trans hbr)
        have k1 := (w11.bl Hb1r.out).all8
        have k2 := (w12.bl Hb1r.out).all3
        have k4 := (B5.out.bl hbr).all2
        have k5 := (B7.out.bl hbr).all3
        have hep := fun w => eql_pt px py w
        clear hown hr15 hbr
        go_upto_region 21 with fail
        refine wp_region_flow [(true, 0), (true, 1), (true, 2), (true, 3), (true, 4), (false, 5), (true, 6), (true, 7), (true, 8), (true, 9), (true, 10), (true, 11), (true, 12), (true, 13), (true, 14), (false, 15), (true, 16), (true, 17), (true, 18), (true, 19), (true, 20), (true, 21), (true, 22), (true, 23), (true, 24), (true, 25), (false, 26), (false, 27), (true, 28), (true, 29)] (fun _ => false) (by kernel_rfl) (by kernel_rfl) (by kernel_rfl) (by kernel_rfl) ?_
        iterate 1
          apply Flow.mv _ rfl
          · intro K' hK'
            simp only [Act.put, Act.eval, List.setIfInBounds_toArray, List.set_cons_zero, List.set_cons_succ, arr_getD, List.getD_cons_zero, List.getD_cons_succ]
            exact hK'
        iterate 1
          apply Flow.calm2 _ _ rfl rfl
          · intro w' hb' K' hK'
            obtain ⟨hc', hf'⟩ := hb'.rule
            go_simp
            try go_ints
            exact hK'
          · intro K' hK'
            simp only [Act.put, List.setIfInBounds_toArray, List.set_cons_zero, List.set_cons_succ]
            exact hK'
        iterate 1
          apply Flow.mv _ rfl
          · intro K' hK'
            simp only [Act.put, Act.eval, List.setIfInBounds_toArray, List.set_cons_zero, List.set_cons_succ, arr_getD, List.getD_cons_zero, List.getD_cons_succ]
            exact hK'
        first
          | (apply Flow.pass rfl (by rfl))
          | (apply Flow.calmG _ rfl (by rfl)
             · intro w' hb'
               obtain ⟨hc', hf'⟩ := hb'.rule
               go_simp
               all_goals (try rfl))
        simp only [Act.put, List.setIfInBounds_toArray, List.set_cons_zero, List.set_cons_succ]
        try go_ints
        first
          | (apply Flow.pass rfl (by rfl))
          | (apply Flow.calmG _ rfl (by rfl)
             · intro w' hb'
               obtain ⟨hc', hf'⟩ := hb'.rule
               go_simp
               all_goals (try rfl))
        simp only [Act.put, List.setIfInBounds_toArray, List.set_cons_zero, List.set_cons_succ]
        try go_ints
        -- a guarded mover
        apply Flow.move rfl
        go_wp2_with fail
        refine (Heq.out A3 A15 c3 c15 _ ((Hr3.out.bl Hbr.out).bl (Bl.refl _).drew) (Hr15.out.bl (Bl.refl _).drew) hl10).mono ?_
        rintro e wa ⟨rfl, HB1⟩
        have hba := (Bl.refl _).drew.trans HB1
        have Hba := Lib.hid (Hbr.out.trans hba)
        have k1 := (w11.bl (Hb13.out.trans Hba.out)).all8
        have k2 := (w12.bl (Hb13.out.trans Hba.out)).all3
        have k4 := (B5.out.bl Hba.out).all2
        have k5 := (B7.out.bl Hba.out).all3
        go_wp2_with fail
        refine ⟨fun _ => (by first | exact HB1 | exact Bl.refl _), ?_⟩
        iterate 1
          apply Flow.calm2 _ _ rfl rfl
          · intro w' hb' K' hK'
            obtain ⟨hc', hf'⟩ := hb'.rule
            go_simp
            try go_ints
            exact hK'
          · intro K' hK'
            simp only [Act.put, List.setIfInBounds_toArray, List.set_cons_zero, List.set_cons_succ]
            exact hK'
        iterate 1
          apply Flow.mv _ rfl
          · intro K' hK'
            simp only [Act.put, Act.eval, List.setIfInBounds_toArray, List.set_cons_zero, List.set_cons_succ, arr_getD, List.getD_cons_zero, List.getD_cons_succ]
            exact hK'
        first
          | (apply Flow.pass rfl (by rfl))
          | (apply Flow.calmG _ rfl (by rfl)
             · intro w' hb'
               obtain ⟨hc', hf'⟩ := hb'.rule
               go_simp
               all_goals (try rfl))
        simp only [Act.put, List.setIfInBounds_toArray, List.set_cons_zero, List.set_cons_succ]
        try go_ints
        first
          | (apply Flow.pass rfl (by rfl))
          | (apply Flow.calmG _ rfl (by rfl)
             · intro w' hb'
               obtain ⟨hc', hf'⟩ := hb'.rule
               go_simp
               all_goals (try rfl))
        simp only [Act.put, List.setIfInBounds_toArray, List.set_cons_zero, List.set_cons_succ]
        try go_ints
        iterate 1
          apply Flow.calm2 _ _ rfl rfl
          · intro w' hb' K' hK'
            obtain ⟨hc', hf'⟩ := hb'.rule
            go_simp
            try go_ints
            exact hK'
          · intro K' hK'
            simp only [Act.put, List.setIfInBounds_toArray, List.set_cons_zero, List.set_cons_succ]
            exact hK'
        iterate 1
          apply Flow.mv _ rfl
          · intro K' hK'
            simp only [Act.put, Act.eval, List.setIfInBounds_toArray, List.set_cons_zero, List.set_cons_succ, arr_getD, List.getD_cons_zero, List.getD_cons_succ]
            exact hK'
        first
          | (apply Flow.pass rfl (by rfl))
          | (apply Flow.calmG _ rfl (by rfl)
             · intro w' hb'
               obtain ⟨hc', hf'⟩ := hb'.rule
               go_simp
               all_goals (try rfl))
        simp only [Act.put, List.setIfInBounds_toArray, List.set_cons_zero, List.set_cons_succ]
        try go_ints
        first
          | (apply Flow.pass rfl (by rfl))
          | (apply Flow.calmG _ rfl (by rfl)
             · intro w' hb'
               obtain ⟨hc', hf'⟩ := hb'.rule
               go_simp
               all_goals (try rfl))
        simp only [Act.put, List.setIfInBounds_toArray, List.set_cons_zero, List.set_cons_succ]
        try go_ints
        first
          | (apply Flow.pass rfl (by rfl))
          | (apply Flow.calmG _ rfl (by rfl)
             · intro w' hb'
               obtain ⟨hc', hf'⟩ := hb'.rule
               go_simp
               all_goals (try rfl))
        simp only [Act.put, List.setIfInBounds_toArray, List.set_cons_zero, List.set_cons_succ]
        try go_ints
        -- a guarded mover
        apply Flow.move rfl
        go_wp2_with fail
        refine (HofR.out _ (HF.out.bl (Hb13.out.trans Hba.out)) (HR.out.bl (Hb13.out.trans Hba.out))).mono ?_
        rintro e wb ⟨rfl, HB2⟩
        have Hbb := Lib.hid (Hba.out.trans HB2)
        have k1 := (w11.bl (Hb13.out.trans Hbb.out)).all8
        have k2 := (w12.bl (Hb13.out.trans Hbb.out)).all3
        have k5 := (B7.out.bl Hbb.out).all3
        go_wp2_with fail
        refine ⟨fun _ => (by first | exact HB2 | exact Bl.refl _), ?_⟩
        first
          | (apply Flow.pass rfl (by rfl))
          | (apply Flow.calmG _ rfl (by rfl)
             · intro w' hb'
               obtain ⟨hc', hf'⟩ := hb'.rule
               go_simp
               all_goals (try rfl))
        simp only [Act.put, List.setIfInBounds_toArray, List.set_cons_zero, List.set_cons_succ]
        try go_ints
        iterate 1
          apply Flow.calm2 _ _ rfl rfl
          · intro w' hb' K' hK'
            obtain ⟨hc', hf'⟩ := hb'.rule
            go_simp
            try go_ints
            exact hK'
          · intro K' hK'
            simp only [Act.put, List.setIfInBounds_toArray, List.set_cons_zero, List.set_cons_succ]
            exact hK'
        iterate 1
          apply Flow.mv _ rfl
          · intro K' hK'
            simp only [Act.put, Act.eval, List.setIfInBounds_toArray, List.set_cons_zero, List.set_cons_succ, arr_getD, List.getD_cons_zero, List.getD_cons_succ]
            exact hK'
        first
          | (apply Flow.pass rfl (by rfl))
          | (apply Flow.calmG _ rfl (by rfl)
             · intro w' hb'
               obtain ⟨hc', hf'⟩ := hb'.rule
               go_simp
               all_goals (try rfl))
        simp only [Act.put, List.setIfInBounds_toArray, List.set_cons_zero, List.set_cons_succ]
        try go_ints
        first
          | (apply Flow.pass rfl (by rfl))
          | (apply Flow.calmG _ rfl (by rfl)
             · intro w' hb'
               obtain ⟨hc', hf'⟩ := hb'.rule
               go_simp
               all_goals (try rfl))
        simp only [Act.put, List.setIfInBounds_toArray, List.set_cons_zero, List.set_cons_succ]
        try go_ints
        iterate 1
          apply Flow.calm2 _ _ rfl rfl
          · intro w' hb' K' hK'
            obtain ⟨hc', hf'⟩ := hb'.rule
            go_simp
            try go_ints
            exact hK'
          · intro K' hK'
            simp only [Act.put, List.setIfInBounds_toArray, List.set_cons_zero, List.set_cons_succ]
            exact hK'
        iterate 1
          apply Flow.mv _ rfl
          · intro K' hK'
            simp only [Act.put, Act.eval, List.setIfInBounds_toArray, List.set_cons_zero, List.set_cons_succ, arr_getD, List.getD_cons_zero, List.getD_cons_succ]
            exact hK'
        first
          | (apply Flow.pass rfl (by rfl))
          | (apply Flow.calmG _ rfl (by rfl)
             · intro w' hb'
               obtain ⟨hc', hf'⟩ := hb'.rule
               go_simp
               all_goals (try rfl))
        simp only [Act.put, List.setIfInBounds_toArray, List.set_cons_zero, List.set_cons_succ]
        try go_ints
        first
          | (apply Flow.pass rfl (by rfl))
          | (apply Flow.calmG _ rfl (by rfl)
             · intro w' hb'
               obtain ⟨hc', hf'⟩ := hb'.rule
               go_simp
               all_goals (try rfl))
        simp only [Act.put, List.setIfInBounds_toArray, List.set_cons_zero, List.set_cons_succ]
        try go_ints
        first
          | (apply Flow.pass rfl (by rfl))
          | (apply Flow.calmG _ rfl (by rfl)
             · intro w' hb'
               obtain ⟨hc', hf'⟩ := hb'.rule
               go_simp
               all_goals (try rfl))
        simp only [Act.put, List.setIfInBounds_toArray, List.set_cons_zero, List.set_cons_succ]
        try go_ints
        -- a guarded mover
        apply Flow.move rfl
        go_wp2_with fail
        refine (HplR.out _ (HF.out.bl (Hb13.out.trans Hbb.out)) (HR.out.bl (Hb13.out.trans Hbb.out))).mono ?_
        rintro e wd ⟨vd, rfl, hvd, HB3⟩
        go_wp2_with fail
        refine ⟨fun _ => (by first | exact HB3 | exact Bl.refl _), ?_⟩
        -- a guarded mover
        apply Flow.move rfl
        go_wp2_with fail
        refine (sameBits_any W H _ _ PLB _ ⟨pR, pc, rfl, Hr7.out.bl (Hbb.out.trans HB3)⟩ hvd (by omega)).mono ?_
        rintro e wf ⟨rfl, HB4⟩
        have Hbf := Lib.hid (Hb13.out.trans ((Hbb.out.trans HB3).trans HB4))
        go_wp2_with fail
        refine ⟨fun _ => (by first | exact HB4 | exact Bl.refl _), ?_⟩
        iterate 1
          apply Flow.calm2 _ _ rfl rfl
          · intro w' hb' K' hK'
            obtain ⟨hc', hf'⟩ := hb'.rule
            go_simp
            try go_ints
            exact hK'
          · intro K' hK'
            simp only [Act.put, List.setIfInBounds_toArray, List.set_cons_zero, List.set_cons_succ]
            exact hK'
        iterate 1
          apply Flow.asg _ rfl
          · intro K' hK'
            simp only [Act.put, Act.eval, List.setIfInBounds_toArray, List.set_cons_zero, List.set_cons_succ, arr_getD, List.getD_cons_zero, List.getD_cons_succ]
            exact hK'
        refine Flow.done ?_
        go_wp2_with fail
        go_ret
        exact ⟨by simp, HW1b.out.trans Hbf.out⟩
end Go.Proofs.YtahfkahfaiidgaaGreatDoor
