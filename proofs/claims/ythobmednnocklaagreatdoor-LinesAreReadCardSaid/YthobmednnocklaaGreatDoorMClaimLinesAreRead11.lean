/- The law LinesAreRead answers true. -/
import Derived.Test.YthobmednnocklaaGreatDoorMClaimLinesAreRead10
import Derived.Test.YthobmednnocklaaGreatDoorMClaimLinesAreRead7
import Derived.Test.YthobmednnocklaaGreatDoorMClaimLinesAreRead1
import Derived.Test.YthobmednnocklaaGreatDoorMClaimLinesAreRead9
import Derived.Test.YthobmednnocklaaGreatDoorMClaimLinesAreRead5

namespace Go.Proofs.YthobmednnocklaaGreatDoor
open Go.RowKit Go.Shelf

/-- What is wrong with what a line is read from. -/
def lineErrD (fe : Int) (W H : Int) (an : Nat) (X Y BW BH most : Int) : Int := if fe = 0 then (if cutErr W H an X Y BW BH = 0 then whenI (!inB most 0 1000) 3 else cutErr W H an X Y BW BH) else fe
theorem lineErrD_first (fe : Int) (W H : Int) (an : Nat) (X Y BW BH most : Int) : firstNZ [fe, pageErr W H an, whenI (!inPageB X Y BW BH W H) 13, whenI (!inB most 0 1000) 3] = lineErrD fe W H an X Y BW BH most := by
 unfold lineErrD cutErr
 by_cases h1 : fe = 0
 · rw [if_pos h1, h1]
   by_cases h2 : pageErr W H an = 0
   · rw [h2]
     cases inPageB X Y BW BH W H <;> cases inB most 0 1000 <;> simp [firstNZ, whenI]
   · simp [firstNZ, h2]
 · rw [if_neg h1]; simp [firstNZ, h1]
def LinePub (WE : Int) (ss : List Sn) (kk : Int) (e : Ending) (w' : World) : Prop := ∃ R m d k, e = .returned (.tuple #[.slice R m d, .int .i64 k, .int .i64 WE]) ∧ (WE ≠ 0 → m = 0 ∧ k = 0) ∧ (WE = 0 → m = ss.length ∧ k = kk ∧ Reads w' 7 R m (snCells ss))
theorem LinePub.none {WE : Int} (h : WE ≠ 0) (ss : List Sn) (kk : Int) (w' : World) : LinePub WE ss kk (.returned (.tuple #[.slice none 0 0, .int .i64 0, .int .i64 WE])) w' := ⟨_, _, _, _, rfl, fun _ => ⟨rfl, rfl⟩, fun e => absurd e h⟩
theorem line_nats {W H : Int} {an : Nat} {X Y BW BH : Int} (h : cutErr W H an X Y BW BH = 0) : ∃ W' H' X' Y' B' C' : Nat, W = W' ∧ H = H' ∧ X = X' ∧ Y = Y' ∧ BW = B' ∧ BH = C' ∧ an = W' * H' ∧ sizeErr (W' : Int) (H' : Int) = 0 ∧ X' + B' ≤ W' ∧ Y' + C' ≤ H' ∧ 1 ≤ B' ∧ 1 ≤ C' := by
 obtain ⟨h1, h2⟩ := cutErr_zero h
 have hs := (pageErr_zero h1).1
 obtain ⟨W', H', rfl, rfl, e, -⟩ := page_nat h1
 obtain ⟨X', rfl⟩ := Int.eq_ofNat_of_zero_le (show 0 ≤ X by omega)
 obtain ⟨Y', rfl⟩ := Int.eq_ofNat_of_zero_le (show 0 ≤ Y by omega)
 obtain ⟨B', rfl⟩ := Int.eq_ofNat_of_zero_le (show 0 ≤ BW by omega)
 obtain ⟨C', rfl⟩ := Int.eq_ofNat_of_zero_le (show 0 ≤ BH by omega)
 exact ⟨W', H', X', Y', B', C', rfl, rfl, rfl, rfl, rfl, rfl, e, hs, by omega, by omega, by omega, by omega⟩
set_option maxRecDepth 100000 in
set_option maxHeartbeats 4000000 in
theorem readLinePub_any (nm : List UInt8) (ht gap sp : Int) (L : Option Addr) (lc : Nat) (ls : List Ltr) (W H : Int) (C : Option Addr) (an cc : Nat) (bs : List Bool) (X Y BW BH most : Int) (w : World) (hL : LtrsAt w L ls) (hnm : nm.length ≤ 9223372036854775807) (hn : ls.length ≤ 9223372036854775807) (hC : Reads w 1 C an (bs.map .bool)) :
 Calls Tryz.prog 6 #[.agg #[.int .i64 W, .int .i64 H, .slice C an cc], .agg #[.int .i64 X, .int .i64 Y, .int .i64 BW, .int .i64 BH], .agg #[.string ⟨nm.toArray⟩, .int .i64 ht, .int .i64 gap, .int .i64 sp, .slice L ls.length lc], .int .i64 most] w fun e w' =>
  LinePub (lineErrD (fontErr (nameB nm) ht gap sp ls) W H an X Y BW BH most) (readS bs W.toNat H.toNat X.toNat Y.toNat BW.toNat BH.toNat ht.toNat ls most ((gap + sp + 1) / 2)) (readK bs W.toNat H.toNat X.toNat Y.toNat BW.toNat BH.toNat ht.toNat ls most ((gap + sp + 1) / 2)) e w' ∧ Bl w w' := by
 have hck := fun wx hL => check_any nm ht gap sp L lc ls wx hL hnm hn
 have hcb := fun wx => checkBoth_any W H C an cc X Y BW BH wx
 obtain ⟨FE, hFE⟩ : ∃ y, y = fontErr (nameB nm) ht gap sp ls := ⟨_, rfl⟩
 obtain ⟨CE, hCE⟩ : ∃ y, y = cutErr W H an X Y BW BH := ⟨_, rfl⟩
 obtain ⟨SS, hSS⟩ : ∃ y, y = readS bs W.toNat H.toNat X.toNat Y.toNat BW.toNat BH.toNat ht.toNat ls most ((gap + sp + 1) / 2) := ⟨_, rfl⟩
 obtain ⟨KK, hKK⟩ : ∃ y, y = readK bs W.toNat H.toNat X.toNat Y.toNat BW.toNat BH.toNat ht.toNat ls most ((gap + sp + 1) / 2) := ⟨_, rfl⟩
 have hWE : lineErrD FE W H an X Y BW BH most = if FE = 0 then (if CE = 0 then whenI (!inB most 0 1000) 3 else CE) else FE := by rw [hCE]; rfl
 have hrl : FE = 0 → CE = 0 → inB most 0 1000 = true → ∀ wx, LtrsAt wx L ls → Reads wx 1 C an (bs.map .bool) → Calls Tryz.prog 35 #[.agg #[.int .i64 W, .int .i64 H, .slice C an cc], .agg #[.int .i64 X, .int .i64 Y, .int .i64 BW, .int .i64 BH], .agg #[.string ⟨nm.toArray⟩, .int .i64 ht, .int .i64 gap, .int .i64 sp, .slice L ls.length lc], .int .i64 most] wx fun e w' => LineRes wx.heap.size SS KK e w' ∧ Bl wx w' := fun h1 h2 h3 wx hLx hCx => by
  obtain ⟨ht', gap', sp', rfl, rfl, rfl, hR⟩ := right_of (hFE.symm.trans h1)
  obtain ⟨W', H', X', Y', B', C', rfl, rfl, rfl, rfl, rfl, rfl, rfl, hsz, q1, q2, q3, q4⟩ := line_nats (hCE.symm.trans h2)
  simp only [Int.toNat_natCast] at hSS hKK
  by_cases hh : C' ≤ ht'
  · rw [hSS, hKK]
    exact readLine_ok nm ht' gap' sp' L lc ls W' H' C cc bs X' Y' B' C' most wx hLx hnm hn (hFE.symm.trans h1) hCx hsz ⟨q1, q2, q3, q4⟩ (inB_true.1 h3) hh
  · unfold readS at hSS
    unfold readK at hKK
    rw [if_pos (by omega)] at hSS hKK
    rw [hSS, hKK]
    exact readLine_high nm ht' gap' sp' L ls.length lc W' H' C (W' * H') cc X' Y' B' C' most wx (by omega)
 rw [← hFE, ← hSS, ← hKK]
 rw [← hFE] at hck
 rw [← hCE] at hcb
 obtain ⟨WE, hWE2⟩ : ∃ y, y = lineErrD FE W H an X Y BW BH most := ⟨_, rfl⟩
 rw [← hWE2] at hWE ⊢
 let w1 := (((w).alloc (.cells #[.int .i64 W, .int .i64 H, .slice C an cc] 24)).alloc (.cells #[.int .i64 X, .int .i64 Y, .int .i64 BW, .int .i64 BH] 26)).alloc (.cells #[.string ⟨nm.toArray⟩, .int .i64 ht, .int .i64 gap, .int .i64 sp, .slice L ls.length lc] 29)
 have w1b : Bl w w1 := (((Bl.refl w).alloc _).alloc _).alloc _
 have w11 : Blk w1 (w.heap.size) 24 #[.int .i64 W, .int .i64 H, .slice C an cc] := by
  have h0 := Blk.new (w) 24 #[.int .i64 W, .int .i64 H, .slice C an cc]
  exact ((h0.alloc _).alloc _)
 have w12 : Blk w1 (w.heap.size + 1) 26 #[.int .i64 X, .int .i64 Y, .int .i64 BW, .int .i64 BH] := by
  have h0 := Blk.new ((w).alloc (.cells #[.int .i64 W, .int .i64 H, .slice C an cc] 24)) 26 #[.int .i64 X, .int .i64 Y, .int .i64 BW, .int .i64 BH]
  simp only [World.size_alloc] at h0
  exact (h0.alloc _)
 have w13 : Blk w1 (w.heap.size + 1 + 1) 29 #[.string ⟨nm.toArray⟩, .int .i64 ht, .int .i64 gap, .int .i64 sp, .slice L ls.length lc] := by
  have h0 := Blk.new (((w).alloc (.cells #[.int .i64 W, .int .i64 H, .slice C an cc] 24)).alloc (.cells #[.int .i64 X, .int .i64 Y, .int .i64 BW, .int .i64 BH] 26)) 29 #[.string ⟨nm.toArray⟩, .int .i64 ht, .int .i64 gap, .int .i64 sp, .slice L ls.length lc]
  simp only [World.size_alloc] at h0
  exact h0
 have HL := Lib.hid (hL.bl w1b); have HC := Lib.hid (hC.bl w1b); have Hck := Lib.hid hck; have Hcb := Lib.hid hcb; have Hrl := Lib.hid hrl; have HWE := Lib.hid hWE
 have k3 := w13.all5
 have HW1b := Lib.hid w1b
 clear hL hC hck hcb hrl hWE w1b hFE hCE hSS hKK hWE2
 go_enter Tryz.func6, Tryz.ntmps6
 go_upto_region 1 with fail
 rw [show ((w.alloc (.cells #[.int .i64 W, .int .i64 H, .slice C an cc] 24)).alloc (.cells #[.int .i64 X, .int .i64 Y, .int .i64 BW, .int .i64 BH] 26)).alloc (.cells #[.string ⟨nm.toArray⟩, .int .i64 ht, .int .i64 gap, .int .i64 sp, .slice L ls.length lc] 29) = w1 from rfl]
 clear_value w1
 go_upto_region 2 with (go_at_call 33; refine (Hck.out _ HL.out).mono ?_; rintro e w2 ⟨rfl, hb2⟩)
 have Hb2 := Lib.hid hb2
 by_cases h1 : FE ≠ 0
 · have hq : (FE != 0) = true := by simp [h1]
   have HX := Lib.hid (show WE = FE ∧ FE ≠ 0 from ⟨by rw [HWE.out, if_neg h1], h1⟩)
   clear h1 hb2 k3
   go_wp2_with fail
   refine bodyPost_ret (v := .tuple #[.slice none 0 0, .int .i64 0, .int .i64 FE]) (by simp [results, Tryz.results6, go_sem]) rfl ⟨by rw [HX.out.1]; exact LinePub.none HX.out.2 _ _ _, HW1b.out.trans Hb2.out⟩
 have h1' : FE = 0 := Classical.not_not.1 h1
 have hq1 : (FE != 0) = false := by simp [h1']
 have H1 := Lib.hid h1'
 have k1 := (w11.bl hb2).all3
 have k2 := (w12.bl hb2).all4
 clear h1 h1' hb2 k3
 go_upto_region 5 with (go_at_call 34; refine (Hcb.out _).mono ?_; rintro e w3 ⟨rfl, hb3⟩)
 have Hb3 := Lib.hid (Hb2.out.trans hb3)
 clear hb3 k1 k2
 by_cases h2 : CE ≠ 0
 · have hq : (CE != 0) = true := by simp [h2]
   have HX := Lib.hid (show WE = CE ∧ CE ≠ 0 from ⟨by rw [HWE.out, if_pos H1.out, if_neg h2], h2⟩)
   clear h2
   go_wp2_with fail
   refine bodyPost_ret (v := .tuple #[.slice none 0 0, .int .i64 0, .int .i64 CE]) (by simp [results, Tryz.results6, go_sem]) rfl ⟨by rw [HX.out.1]; exact LinePub.none HX.out.2 _ _ _, HW1b.out.trans Hb3.out⟩
 have h2' : CE = 0 := Classical.not_not.1 h2
 have hq2 : (CE != 0) = false := by simp [h2']
 have H2 := Lib.hid h2'
 clear h2 h2'
 by_cases h3 : most < 0
 · have HX := Lib.hid (show WE = 3 by
    rw [HWE.out, if_pos H1.out, if_pos H2.out]
    have : inB most 0 1000 = false := by cases h : inB most 0 1000 with | false => rfl | true => have := inB_true.1 h; omega
    rw [this]; rfl)
   go_wp2_with fail
   refine bodyPost_ret (v := .tuple #[.slice none 0 0, .int .i64 0, .int .i64 3]) (by simp [results, Tryz.results6, go_sem]) rfl ⟨by rw [HX.out]; exact LinePub.none (by decide) _ _ _, HW1b.out.trans Hb3.out⟩
 by_cases h4 : 1000 < most
 · have HX := Lib.hid (show WE = 3 by
    rw [HWE.out, if_pos H1.out, if_pos H2.out]
    have : inB most 0 1000 = false := by cases h : inB most 0 1000 with | false => rfl | true => have := inB_true.1 h; omega
    rw [this]; rfl)
   go_wp2_with fail
   refine bodyPost_ret (v := .tuple #[.slice none 0 0, .int .i64 0, .int .i64 3]) (by simp [results, Tryz.results6, go_sem]) rfl ⟨by rw [HX.out]; exact LinePub.none (by decide) _ _ _, HW1b.out.trans Hb3.out⟩
 have hin : inB most 0 1000 = true := inB_true.2 (by omega)
 have HX := Lib.hid (show WE = 0 by rw [HWE.out, if_pos H1.out, if_pos H2.out, hin]; rfl)
 have Hcall := Lib.hid (Hrl.out H1.out H2.out hin w3 (HL.out.bl Hb3.out) (HC.out.bl Hb3.out))
 have k1 := (w11.bl Hb3.out).all3
 have k2 := (w12.bl Hb3.out).all4
 have k3 := (w13.bl Hb3.out).all5
 clear hin
 go_upto_region 10 with (go_at_call 35; refine Hcall.out.mono ?_; rintro e w4 ⟨⟨R, d, rfl, hr, hnw⟩, hb4⟩)
 have Hr := Lib.hid hr; have Hb4 := Lib.hid (Hb3.out.trans hb4)
 clear hr hnw hb4 k1 k2 k3
 go_wp2_with fail
 refine bodyPost_ret (v := .tuple #[.slice R SS.length d, .int .i64 KK, .int .i64 0]) (by simp [results, Tryz.results6, go_sem]) rfl ⟨by rw [HX.out]; exact ⟨_, _, _, _, rfl, fun h => absurd rfl h, fun _ => ⟨rfl, rfl, Hr.out⟩⟩, HW1b.out.trans Hb4.out⟩
end Go.Proofs.YthobmednnocklaaGreatDoor


/-! bedlaw2.lineOf. -/
namespace Go.Proofs.YthobmednnocklaaGreatDoor
open Go.RowKit Go.Shelf

set_option maxRecDepth 100000 in
set_option maxHeartbeats 1000000 in
theorem lineOf1_any (p q r : Nat) (W H : Nat) (C : Option Addr) (cc : Nat) (bs : List Bool) (X Y BW BH : Int) (t : Int) (x y : Nat) (w : World) (hp : Blk w p 24 #[.int .i64 W, .int .i64 H, .slice C (W * H) cc]) (hq : Blk w q 26 #[.int .i64 X, .int .i64 Y, .int .i64 BW, .int .i64 BH]) (hr : Blk w r 3 #[.int .i64 t]) (hC : Reads w 1 C (W * H) (bs.map .bool)) (hW : W ≤ 4000) (hH : H ≤ 4000) (hX : 0 ≤ X ∧ X ≤ 4000) (ht : -4000 ≤ t ∧ t ≤ 4000) (hx : x ≤ 4000) (hy : y ≤ 4000) :
 Calls Tryz.prog 46 #[.int .i64 x, .int .i64 y, .pointer (some ⟨p, 0, none⟩), .pointer (some ⟨q, 0, none⟩), .pointer (some ⟨r, 0, none⟩)] w fun e w' => e = .returned (.bool (atI bs W H (X + x) (t + y))) ∧ Bl w w' := by
 have k1 := hp.all3
 have k2 := hq.all4
 have k3 := hr.all1
 have lp := hp.lt
 have lq := hq.lt
 have lr := hr.lt
 have Hat := Lib.hid (at_any W H C cc bs (X + x) (t + y) w hC hW hH)
 clear hp hq hr hC
 go_enter Tryz.func46, Tryz.ntmps46
 go_wp2_with (go_at_call 47; refine Hat.out.mono ?_; rintro e w2 ⟨rfl, hb2⟩)
 go_ret
 exact ⟨rfl, hb2⟩
set_option maxRecDepth 100000 in
set_option maxHeartbeats 2000000 in
theorem lineOf_high (nm : List UInt8) (ht gap sp : Int) (L : Option Addr) (n lc : Nat) (W H : Int) (C : Option Addr) (m cc : Nat) (X Y BW BH : Int) (most : Int) (w : World) (hh : ht < BH) :
 Calls Tryz.prog 14 #[.agg #[.int .i64 W, .int .i64 H, .slice C m cc], .agg #[.int .i64 X, .int .i64 Y, .int .i64 BW, .int .i64 BH], .agg #[.string ⟨nm.toArray⟩, .int .i64 ht, .int .i64 gap, .int .i64 sp, .slice L n lc], .int .i64 most] w fun e w' => LineRes w.heap.size [⟨[63], X, Y, BW, BH, -1, -1⟩] (-1) e w' ∧ Bl w w' := by
 let w1 := (((w).alloc (.cells #[.int .i64 W, .int .i64 H, .slice C m cc] 24)).alloc (.cells #[.int .i64 X, .int .i64 Y, .int .i64 BW, .int .i64 BH] 26)).alloc (.cells #[.string ⟨nm.toArray⟩, .int .i64 ht, .int .i64 gap, .int .i64 sp, .slice L n lc] 29)
 have w1b : Bl w w1 := (((Bl.refl w).alloc _).alloc _).alloc _
 have w11 : Blk w1 (w.heap.size) 24 #[.int .i64 W, .int .i64 H, .slice C m cc] := by
  have h0 := Blk.new (w) 24 #[.int .i64 W, .int .i64 H, .slice C m cc]
  exact ((h0.alloc _).alloc _)
 have w12 : Blk w1 (w.heap.size + 1) 26 #[.int .i64 X, .int .i64 Y, .int .i64 BW, .int .i64 BH] := by
  have h0 := Blk.new ((w).alloc (.cells #[.int .i64 W, .int .i64 H, .slice C m cc] 24)) 26 #[.int .i64 X, .int .i64 Y, .int .i64 BW, .int .i64 BH]
  simp only [World.size_alloc] at h0
  exact (h0.alloc _)
 have w13 : Blk w1 (w.heap.size + 1 + 1) 29 #[.string ⟨nm.toArray⟩, .int .i64 ht, .int .i64 gap, .int .i64 sp, .slice L n lc] := by
  have h0 := Blk.new (((w).alloc (.cells #[.int .i64 W, .int .i64 H, .slice C m cc] 24)).alloc (.cells #[.int .i64 X, .int .i64 Y, .int .i64 BW, .int .i64 BH] 26)) 29 #[.string ⟨nm.toArray⟩, .int .i64 ht, .int .i64 gap, .int .i64 sp, .slice L n lc]
  simp only [World.size_alloc] at h0
  exact h0
 have sz1 : w1.heap.size = w.heap.size + 3 := by simp [w1]
 have k2 := w12.all4
 have k3 := w13.all5
 have HW1b := Lib.hid w1b
 clear w1b
 go_enter Tryz.func14, Tryz.ntmps14
 go_upto_region 1 with fail
 rw [show ((w.alloc (.cells #[.int .i64 W, .int .i64 H, .slice C m cc] 24)).alloc (.cells #[.int .i64 X, .int .i64 Y, .int .i64 BW, .int .i64 BH] 26)).alloc (.cells #[.string ⟨nm.toArray⟩, .int .i64 ht, .int .i64 gap, .int .i64 sp, .slice L n lc] 29) = w1 from rfl]
 clear_value w1
 go_wp2_with fail
 obtain ⟨w2, hw2⟩ : ∃ x, x = w1.alloc (.cells #[.string ⟨#[63]⟩, .int .i64 X, .int .i64 Y, .int .i64 BW, .int .i64 BH, .int .i64 (-1), .int .i64 (-1)] 45) := ⟨_, rfl⟩
 have b2 : Blk w2 w1.heap.size 45 #[.string ⟨#[63]⟩, .int .i64 X, .int .i64 Y, .int .i64 BW, .int .i64 BH, .int .i64 (-1), .int .i64 (-1)] := by rw [hw2]; exact Blk.new _ _ _
 have hb2 : Bl w1 w2 := by rw [hw2]; exact (Bl.refl _).alloc _
 rw [← hw2]
 refine bodyPost_ret (v := .tuple #[.slice (some ⟨w1.heap.size, 0, none⟩) 1 1, .int .i64 (-1)]) (by simp [results, Tryz.results14, go_sem]) rfl ⟨⟨_, _, rfl, b2.reads 1 7 rfl, fun ad h => by cases h; show w.heap.size ≤ w1.heap.size; omega⟩, HW1b.out.trans hb2⟩
set_option maxRecDepth 100000 in
set_option maxHeartbeats 16000000 in
theorem lineOf_ok (nm : List UInt8) (ht gap sp : Nat) (L : Option Addr) (lc : Nat) (ls : List Ltr) (W H : Nat) (C : Option Addr) (cc : Nat) (bs : List Bool) (X Y BW BH : Nat) (most : Int) (w : World) (hL : LtrsAt w L ls) (hnm : nm.length ≤ 9223372036854775807) (hn : ls.length ≤ 9223372036854775807) (hfe : fontErr (nameB nm) ht gap sp ls = 0)
 (hC : Reads w 1 C (W * H) (bs.map .bool)) (hs : sizeErr (W : Int) (H : Int) = 0) (hbx : X + BW ≤ W ∧ Y + BH ≤ H ∧ 1 ≤ BW ∧ 1 ≤ BH) (hm : 0 ≤ most ∧ most ≤ 1000) (hh : BH ≤ ht) :
 Calls Tryz.prog 14 #[.agg #[.int .i64 W, .int .i64 H, .slice C (W * H) cc], .agg #[.int .i64 X, .int .i64 Y, .int .i64 BW, .int .i64 BH], .agg #[.string ⟨nm.toArray⟩, .int .i64 ht, .int .i64 gap, .int .i64 sp, .slice L ls.length lc], .int .i64 most] w fun e w' => LineRes w.heap.size (readS bs W H X Y BW BH ht ls most (((gap : Int) + (sp : Int) + 1) / 2)) (readK bs W H X Y BW BH ht ls most (((gap : Int) + (sp : Int) + 1) / 2)) e w' ∧ Bl w w' := by
 have hz := sizeErr_zero hs
 obtain ⟨⟨-, -, -, -, -, hht1, hht2⟩, hltr⟩ := fontErr_zero hfe
 have hht : 1 ≤ ht ∧ ht ≤ 64 := by omega
 have hXY : X ≤ 4000 ∧ Y ≤ 4000 ∧ BH ≤ 4000 := by omega
 have hBW : BW ≤ 4000 := by omega
 obtain ⟨gs, hgs⟩ : ∃ g : Int, g = (((gap : Int) + (sp : Int) + 1) / 2) := ⟨_, rfl⟩
 have hgs0 : 0 ≤ gs := by omega
 obtain ⟨N, hN⟩ : ∃ n, n = ht - BH + 1 := ⟨_, rfl⟩
 obtain ⟨SK, hSK⟩ : ∃ f, f = seenK bs W H X Y BW ht ls most gs := ⟨_, rfl⟩
 obtain ⟨bk, hbk⟩ : ∃ k, k = minTo (fun k => costS ht (SK k)) N := ⟨_, rfl⟩
 have hbkl : bk < N := by rw [hbk]; exact minTo_lt _ _ (by omega)
 have hrs : readS bs W H X Y BW BH ht ls most gs = (SK bk).map (fun s => s.moved X ((Y : Int) - (bk : Int))) := by
  unfold readS bestK
  rw [if_neg (by omega), ← hN, ← hSK, ← hbk]
 have hrk : readK bs W H X Y BW BH ht ls most gs = (bk : Int) := by
  unfold readK bestK
  rw [if_neg (by omega), ← hN, ← hSK, ← hbk]
 have hll : ∀ k, (lineV (lineP bs W H X Y BW ht k) BW ht ls most ht gs).flatten = snCells (SK k) ∧ (lineV (lineP bs W H X Y BW ht k) BW ht ls most ht gs).length = (SK k).length ∧ (∀ s ∈ SK k, SnLine s) ∧ (SK k).length ≤ 8000 := fun k => by
  rw [hSK]
  exact lineS_cells hBW (by omega) (fun l hl => by
   have h := hltr l hl
   have := (pageErr_zero h.2.1).1
   exact ⟨⟨h.2.2.2, by have := sizeErr_zero this; omega⟩, textB_len h.1⟩) hgs0
 rw [← hgs, hrs, hrk]
 have hblk : BW * ht ≤ 1048576 := Nat.le_trans (Nat.mul_le_mul hBW hht.2) (by decide)
 have hsz : sizeErr (BW : Int) (ht : Int) = 0 := by
  have := Int.natCast_mul BW ht
  unfold sizeErr
  rw [if_pos (by omega), if_neg (by omega)]
 have hrd := fun (A : Option Addr) (ac k : Nat) (wx : World) (hA : Reads wx 1 A (BW * ht) ((lineP bs W H X Y BW ht k).map .bool)) (hLx : LtrsAt wx L ls) => show Calls Tryz.prog 48 #[.agg #[.string ⟨nm.toArray⟩, .int .i64 ht, .int .i64 gap, .int .i64 sp, .slice L ls.length lc], .agg #[.int .i64 BW, .int .i64 ht, .slice A (BW * ht) ac], .int .i64 most] wx fun e w' => ∃ R d, e = .returned (.tuple #[.slice R (SK k).length d, .int .i64 0]) ∧ w'.ownsRow wx.heap.size 45 7 (.slice R (SK k).length d) (SK k).length (snCells (SK k)) ∧ Bl wx w' from
  (readO_any nm ht gap sp L lc ls BW ht A (BW * ht) ac (lineP bs W H X Y BW ht k) most wx hLx hA hnm hn).mono fun e w' ⟨R, m, d, err, he, hr, hb⟩ => by
    obtain ⟨⟨h1, -, h3⟩, h4⟩ := hr
    have hp : pageErr (BW : Int) (ht : Int) (BW * ht) = 0 := by unfold pageErr; rw [if_pos hsz, if_pos (by simp)]
    have herr : err = 0 := by
     rw [h1, hfe, hp, readErr_m (by simp), show inB most 0 1000 = true from inB_true.2 hm]
     rfl
    subst herr
    obtain ⟨hl1, hl2, -⟩ := hll k
    obtain ⟨hm1, -⟩ := h3 rfl
    have h5 := h4 rfl
    simp only [Int.toNat_natCast] at hm1 h5
    rw [← hgs] at hm1 h5
    have hm2 : m = (SK k).length := by rw [← hl2]; exact hm1
    rw [show (lineTo (seeOf (lineP bs W H X Y BW ht k) BW ht ls most ht) gs ht (piecesTo (colN (lineP bs W H X Y BW ht k) BW ht) BW) (piecesTo (colN (lineP bs W H X Y BW ht k) BW ht) BW).length).flatten = snCells (SK k) from hl1] at h5
    subst hm2
    exact ⟨R, d, he, h5, hb⟩
 have hsn := fun k => (hll k).2.2.1
 have hln := fun k => (hll k).2.2.2
 have hW4 : W ≤ 4000 ∧ H ≤ 4000 := by omega
 let w1 := (((w).alloc (.cells #[.int .i64 W, .int .i64 H, .slice C (W * H) cc] 24)).alloc (.cells #[.int .i64 X, .int .i64 Y, .int .i64 BW, .int .i64 BH] 26)).alloc (.cells #[.string ⟨nm.toArray⟩, .int .i64 ht, .int .i64 gap, .int .i64 sp, .slice L ls.length lc] 29)
 have w1b : Bl w w1 := (((Bl.refl w).alloc _).alloc _).alloc _
 have w11 : Blk w1 (w.heap.size) 24 #[.int .i64 W, .int .i64 H, .slice C (W * H) cc] := by
  have h0 := Blk.new (w) 24 #[.int .i64 W, .int .i64 H, .slice C (W * H) cc]
  exact ((h0.alloc _).alloc _)
 have w12 : Blk w1 (w.heap.size + 1) 26 #[.int .i64 X, .int .i64 Y, .int .i64 BW, .int .i64 BH] := by
  have h0 := Blk.new ((w).alloc (.cells #[.int .i64 W, .int .i64 H, .slice C (W * H) cc] 24)) 26 #[.int .i64 X, .int .i64 Y, .int .i64 BW, .int .i64 BH]
  simp only [World.size_alloc] at h0
  exact (h0.alloc _)
 have w13 : Blk w1 (w.heap.size + 1 + 1) 29 #[.string ⟨nm.toArray⟩, .int .i64 ht, .int .i64 gap, .int .i64 sp, .slice L ls.length lc] := by
  have h0 := Blk.new (((w).alloc (.cells #[.int .i64 W, .int .i64 H, .slice C (W * H) cc] 24)).alloc (.cells #[.int .i64 X, .int .i64 Y, .int .i64 BW, .int .i64 BH] 26)) 29 #[.string ⟨nm.toArray⟩, .int .i64 ht, .int .i64 gap, .int .i64 sp, .slice L ls.length lc]
  simp only [World.size_alloc] at h0
  exact h0
 have sz1 : w1.heap.size = w.heap.size + 3 := by simp [w1]
 have HL := Lib.hid (hL.bl w1b); have HC := Lib.hid (hC.bl w1b); have HS := Lib.hid hs; have HSz := Lib.hid hsz; have Hrd := Lib.hid hrd; have HSn := Lib.hid hsn; have HLn := Lib.hid hln; have HBk := Lib.hid hbk; have HN := Lib.hid hN
 have k1 := w11.all3
 have k2 := w12.all4
 have k3 := w13.all5
 have HW1b := Lib.hid w1b
 have eN : (ht : Int) - (BH : Int) + 1 = (N : Int) := by omega
 have hN1 : 1 ≤ N ∧ N ≤ 64 := by omega
 clear hL hC hs hsz hrd hll hsn hln w1b hfe hltr hgs hSK hrs hrk hbk hN hnm hn hz
 go_enter Tryz.func14, Tryz.ntmps14
 go_upto_region 1 with fail
 rw [show ((w.alloc (.cells #[.int .i64 W, .int .i64 H, .slice C (W * H) cc] 24)).alloc (.cells #[.int .i64 X, .int .i64 Y, .int .i64 BW, .int .i64 BH] 26)).alloc (.cells #[.string ⟨nm.toArray⟩, .int .i64 ht, .int .i64 gap, .int .i64 sp, .slice L ls.length lc] 29) = w1 from rfl]
 clear_value w1
 go_wp2_with fail
 rw [show decide (ht < BH) = false from decide_eq_false (by omega)]
 go_loopw [10, 11, 12, 34] (fun s a c u wr => ∃ k : Nat, k ≤ N ∧ u = .int .i64 k ∧ Bl w1 wr ∧ ((k = 0 ∧ s = .slice none 0 0 ∧ a = .int .i64 (-1) ∧ c = .int .i64 0) ∨ (0 < k ∧ ∃ (b : Nat) (R : Option Addr) (d : Nat), b = minTo (fun k => costS ht (SK k)) k ∧ s = .slice R (SK b).length d ∧ a = .int .i64 b ∧ c = .int .i64 (costS ht (SK b)) ∧ Reads wr 7 R (SK b).length (snCells ((SK b).map (fun s => s.moved X ((Y : Int) - (b : Int))))) ∧ ∀ ad, R = some ad → w1.heap.size ≤ ad.block))) (fun _ _ _ u _ => N - (RowKit.intOf u).toNat)
 case atStart => exact ⟨0, Nat.zero_le _, rfl, Bl.refl _, .inl ⟨rfl, rfl, rfl, rfl⟩⟩
 case round =>
  obtain ⟨k, hk, rfl, hb, hst⟩ := hrel
  have k2 := (w12.bl hb).all4
  have k3 := (w13.bl hb).all5
  have Hb := Lib.hid hb; have Hst := Lib.hid hst
  clear hb hst k1
  by_cases hlt : k < N
  · go_upto_region 9 with fail
    obtain ⟨o2, ho2⟩ : ∃ x, x = wr.heap.size := ⟨_, rfl⟩
    obtain ⟨w2, hw2⟩ : ∃ x, x = wr.alloc (.cells #[.int .i64 ((Y : Int) - (k : Int))] 3) := ⟨_, rfl⟩
    have b2 : Blk w2 o2 3 #[.int .i64 ((Y : Int) - (k : Int))] := by rw [hw2, ho2]; exact Blk.new _ _ _
    have hb2 : Bl wr w2 := by rw [hw2]; exact (Bl.refl _).alloc _
    rw [← hw2, ← ho2]
    have Hb2 := Lib.hid (Hb.out.trans hb2); have Hr2 := Lib.hid hb2; have B2 := Lib.hid b2
    have hmd := Made_any BW ht (fun u v => atI bs W H ((X : Int) + (u : Int)) ((Y : Int) - (k : Int) + (v : Int))) 46 #[.pointer (some ⟨w.heap.size, 0, none⟩), .pointer (some ⟨w.heap.size + 1, 0, none⟩), .pointer (some ⟨o2, 0, none⟩)] w2 (by omega) (by omega) (by omega)
     ⟨enters Tryz.func46 (by kernel_rfl) rfl, fun wx x y hx hxl hyl => lineOf1_any w.heap.size (w.heap.size + 1) o2 W H C cc bs X Y BW BH ((Y : Int) - (k : Int)) x y wx (w11.bl (Hb2.out.trans hx)) (w12.bl (Hb2.out.trans hx)) (b2.bl hx) (HC.out.bl (Hb2.out.trans hx)) hW4.1 hW4.2 (by omega) (by omega) (by omega) (by omega)⟩
    have Hmd := Lib.hid hmd
    have k2 := (w12.bl Hb2.out).all4
    have k3 := (w13.bl Hb2.out).all5
    clear hw2 ho2 b2 hb2 hmd
    go_upto_region 10 with (go_at_call 45; refine Hmd.out.mono ?_; rintro e w4 ⟨v4, rfl, ⟨R4, c4, rfl, hr4, hn4⟩, hb4⟩)
    obtain ⟨o4, ho4⟩ : ∃ x, x = w4.heap.size := ⟨_, rfl⟩
    obtain ⟨w5, hw5⟩ : ∃ x, x = w4.alloc (.cells #[.int .i64 BW, .int .i64 ht, .slice R4 (BW * ht) c4] 24) := ⟨_, rfl⟩
    have b5 : Blk w5 o4 24 #[.int .i64 BW, .int .i64 ht, .slice R4 (BW * ht) c4] := by rw [hw5, ho4]; exact Blk.new _ _ _
    have hb5 : Bl w4 w5 := by rw [hw5]; exact (Bl.refl _).alloc _
    rw [← hw5, ← ho4]
    have Hb5 := Lib.hid (Hb2.out.trans (hb4.trans hb5)); have Hr5 := Lib.hid (Hr2.out.trans (hb4.trans hb5)); have B25 := Lib.hid (B2.out.bl (hb4.trans hb5))
    have Hrc := Lib.hid (Hrd.out R4 c4 k w5 (hr4.bl hb5) (HL.out.bl Hb5.out))
    have k3 := (w13.bl Hb5.out).all5
    have k4 := b5.all3
    clear hw5 ho4 b5 hb5 hb4 hr4 hn4 k2
    go_upto_region 11 with (go_at_call 48; refine Hrc.out.mono ?_; rintro e w6 ⟨R6, d6, rfl, hown6, hb6⟩)
    have Hb6 := Lib.hid hb6
    obtain ⟨SS, hSS⟩ : ∃ z, z = SK k := ⟨_, rfl⟩
    have hsl := HSn.out k
    have hnl := HLn.out k
    rw [← hSS] at hown6 hsl hnl ⊢
    have HO := Lib.hid (show w6.ownsRow w5.heap.size 45 7 (.slice R6 SS.length d6) SS.length (snCells (movedTo SS X ((Y : Int) - (k : Int)) 0)) by rw [movedTo_zero]; exact hown6)
    have HSl := Lib.hid hsl; have HSS := Lib.hid hSS
    have hk64 : k ≤ 64 := by omega
    have hbd := fun i => costTo_bd (ht := ht) (by omega) hsl i
    have HBd := Lib.hid hbd
    clear hb6 hown6 hSS hsl k3 k4 hbd
    go_wp2_with fail
    go_loopw [18, 56] (fun c u wy => ∃ i : Nat, i ≤ SS.length ∧ u = .int .i64 i ∧ c = .int .i64 (costTo ht SS i) ∧ Bl w5 wy ∧ wy.ownsRow w5.heap.size 45 7 (.slice R6 SS.length d6) SS.length (snCells (movedTo SS X ((Y : Int) - (k : Int)) i))) (fun _ u _ => SS.length - (RowKit.intOf u).toNat)
    case atStart => exact ⟨0, Nat.zero_le _, rfl, rfl, Hb6.out, HO.out⟩
    case round =>
     rename World => wy
     obtain ⟨i, hi, rfl, rfl, hby, hoy⟩ := hrel
     by_cases hil : i < SS.length
     · have hg : SS[i]? = some SS[i] := List.getElem?_eq_getElem hil
       obtain ⟨s, hs0⟩ : ∃ z, z = SS[i] := ⟨_, rfl⟩
       rw [← hs0] at hg
       have hsn := HSl.out s (List.mem_of_getElem? hg)
       have hmv := movedTo_at (dx := X) (dy := (Y : Int) - (k : Int)) hg
       have hmn := movedTo_succ (dx := X) (dy := (Y : Int) - (k : Int)) hg
       have hst := costTo_succ (ht := ht) hg
       have hbi := HBd.out i
       obtain ⟨M0, hM0⟩ : ∃ z, z = movedTo SS X ((Y : Int) - (k : Int)) i := ⟨_, rfl⟩
       obtain ⟨C0, hC0⟩ : ∃ x, x = costTo ht SS i := ⟨_, rfl⟩
       obtain ⟨C1, hC1⟩ : ∃ x, x = costTo ht SS (i + 1) := ⟨_, rfl⟩
       rw [← hM0] at hoy hmv hmn
       rw [← hC0] at hbi hst ⊢
       rw [← hC1] at hst
       obtain ⟨g, cap, eg, hgb, hcap⟩ := own_some hoy (by omega)
       injection eg with eg1 _ eg2
       subst eg1 eg2
       have hgl := own_lt hoy
       obtain ⟨-, hfz⟩ := own_blk hoy
       have c1 : wy.cell? ⟨g, i * 7 + 1, none⟩ = some (.int .i64 s.X) := own_cell hoy (by rw [snCells_at hmv 1 (by omega)]; rfl)
       have c3 : wy.cell? ⟨g, i * 7 + 3, none⟩ = some (.int .i64 s.W) := own_cell hoy (by rw [snCells_at hmv 3 (by omega)]; rfl)
       have c5 : wy.cell? ⟨g, i * 7 + 5, none⟩ = some (.int .i64 s.d) := own_cell hoy (by rw [snCells_at hmv 5 (by omega)]; rfl)
       have hM1 := snCells_set (s' := ⟨s.t, s.X + X, s.Y, s.W, s.H, s.d, s.e⟩) hmv 1 (.int .i64 (s.X + X)) (by omega) rfl
       have hm1 : (M0.set i ⟨s.t, s.X + X, s.Y, s.W, s.H, s.d, s.e⟩)[i]? = some ⟨s.t, s.X + X, s.Y, s.W, s.H, s.d, s.e⟩ := by
        rw [List.getElem?_set_self (by rw [hM0, movedTo_len]; exact hil)]
       have hX := hsn.X
       have hY := hsn.Y
       have hw := hsn.W
       have hd := hsn.ok.2.1
       have hmul : 0 ≤ (ht : Int) * s.W ∧ (ht : Int) * s.W ≤ 256000 := ⟨Int.mul_nonneg (by omega) hw.1, Int.mul_le_mul (show (ht : Int) ≤ 64 by omega) hw.2 hw.1 (by decide)⟩
       have hcb : 0 ≤ C0 ∧ C0 ≤ 256000000000 := by omega
       have HM1 := Lib.hid hM1; have Hm1 := Lib.hid hm1; have Hmn := Lib.hid hmn; have Hby := Lib.hid hby; have Hgb := Lib.hid hgb; have HY := Lib.hid hY; have HC1 := Lib.hid hC1; have Hstc := Lib.hid hst; have Hoy := Lib.hid hoy
       have hiI : (i : Int) < (SS.length : Int) := by omega
       have k3 := (w13.bl (Hb5.out.trans hby)).all5
       clear hg hs0 hsn hmv hmn hM0 hoy hM1 hm1 hby hgb hY hC0 hC1 hst hbi hgl hfz
       go_upto_if 64 with fail
       go_cut [18] from 64 to 82 (fun s wc => s = .int .i64 C1 ∧ ∃ dr : Bool, wc = if dr then wy.drew else wy)
       case first =>
        by_cases hneg : s.d < 0
        · have HX := Lib.hid (show C0 + (ht : Int) * s.W = C1 by rw [Hstc.out]; unfold costOne; rw [if_pos hneg])
          go_upto_region 16 with fail
          refine wp_region_flow [(true, 0), (true, 1), (true, 2), (true, 3), (true, 4), (true, 5), (true, 6), (true, 7), (true, 8), (true, 9), (true, 10), (true, 11)] (fun _ => false) (by kernel_rfl) (by kernel_rfl) (by kernel_rfl) (by kernel_rfl) ?_
          iterate 1
           apply Flow.mv _ rfl
           · intro K' hK'
             simp only [sqA, Act.eval, arr_getD, List.getD_cons_zero, List.getD_cons_succ]
             exact hK'
          iterate 2
           apply Flow.calm2 _ _ rfl rfl
           · intro w' hb' K' hK'
             obtain ⟨hc', hf'⟩ := hb'.rule
             go_simp
             try go_ints
             exact hK'
           · intro K' hK'
             simp only [sqA]
             exact hK'
          iterate 2
           apply Flow.mv _ rfl
           · intro K' hK'
             simp only [sqA, Act.eval, arr_getD, List.getD_cons_zero, List.getD_cons_succ]
             exact hK'
          iterate 6
           apply Flow.calm2 _ _ rfl rfl
           · intro w' hb' K' hK'
             obtain ⟨hc', hf'⟩ := hb'.rule
             go_simp
             try go_ints
             exact hK'
           · intro K' hK'
             simp only [sqA]
             exact hK'
          iterate 1
           apply Flow.asg _ rfl
           · intro K' hK'
             simp only [sqA, Act.eval, arr_getD, List.getD_cons_zero, List.getD_cons_succ]
             exact hK'
          refine Flow.done ?_
          go_wp2_with fail
          go_meet
          case rel => exact ⟨by rw [HX.out], true, rfl⟩
        · have HX := Lib.hid (show C0 + s.d = C1 by rw [Hstc.out]; unfold costOne; rw [if_neg hneg])
          go_wp2_with fail
          go_meet
          case rel => exact ⟨by rw [HX.out], false, rfl⟩
       case rest =>
       obtain ⟨rfl, dr, hwc⟩ := hcut
       rename World => wz
       have hbz : Bl wy wz := by rw [hwc]; cases dr; exact Bl.refl _; exact (Bl.refl _).drew
       have Hbz := Lib.hid hbz
       have oz := own_bl Hoy.out hbz
       have k2 := (w12.bl (Hb5.out.trans (Hby.out.trans hbz))).all4
       have k3 := (B25.out.bl (Hby.out.trans hbz)).all1
       have c1 : wz.cell? ⟨g, i * 7 + 1, none⟩ = some (.int .i64 s.X) := by
        rw [hwc]; cases dr
        · exact c1
        · exact c1
       have hgl := own_lt oz
       obtain ⟨-, hfz⟩ := own_blk oz
       have ho1 := ownsRow_set oz (i * 7 + 1) (.int .i64 (s.X + X))
       have Hoz1 := Lib.hid (show (wz.setCell ⟨g, i * 7 + 1, none⟩ (.int .i64 (s.X + X))).ownsRow w5.heap.size 45 7 (.slice (some ⟨g, 0, none⟩) SS.length d6) SS.length (snCells (M0.set i ⟨s.t, s.X + X, s.Y, s.W, s.H, s.d, s.e⟩)) by rw [HM1.out]; exact ho1)
       clear hwc oz ho1 hbz c3 c5
       go_upto_region 18 with fail
       refine wp_region_flow [(true, 0), (true, 1), (true, 2), (true, 3), (true, 4), (true, 5), (true, 6), (true, 7), (true, 8), (true, 9), (true, 10), (true, 11), (false, 12)] (fun i => i == 12) (by kernel_rfl) (by kernel_rfl) (by kernel_rfl) (by kernel_rfl) ?_
       iterate 2
        apply Flow.mv _ rfl
        · intro K' hK'
          simp only [sqA, Act.eval, arr_getD, List.getD_cons_zero, List.getD_cons_succ]
          exact hK'
       iterate 10
        apply Flow.calm2 _ _ rfl rfl
        · intro w' hb' K' hK'
          obtain ⟨hc', hf'⟩ := hb'.rule
          go_simp
          try go_ints
          exact hK'
        · intro K' hK'
          simp only [sqA]
          exact hK'
       refine Flow.tail _ rfl ?_
       go_wp2_with fail
       obtain ⟨w2', hw2'⟩ : ∃ x, x = (wz.setCell ⟨g, i * 7 + 1, none⟩ (.int .i64 (s.X + X))).drew := ⟨_, rfl⟩
       have hb2' : Bl w5 w2' := by rw [hw2']; exact ((Hby.out.trans Hbz.out).setCell Hgb.out _).drew
       have o2' : w2'.ownsRow w5.heap.size 45 7 (.slice (some ⟨g, 0, none⟩) SS.length d6) SS.length (snCells (M0.set i ⟨s.t, s.X + X, s.Y, s.W, s.H, s.d, s.e⟩)) := by rw [hw2']; exact own_bl Hoz1.out (Bl.refl _).drew
       rw [← hw2']
       have c2 : w2'.cell? ⟨g, i * 7 + 2, none⟩ = some (.int .i64 0) := own_cell o2' (by rw [snCells_at Hm1.out 2 (by omega)]; show some (Value.int .i64 s.Y) = _; rw [HY.out])
       obtain ⟨-, hfz2⟩ := own_blk o2'
       have hgl2 := own_lt o2'
       have ho2 := ownsRow_set o2' (i * 7 + 2) (.int .i64 ((Y : Int) - (k : Int)))
       rw [← snCells_set (s' := s.moved X ((Y : Int) - (k : Int))) Hm1.out 2 (.int .i64 ((Y : Int) - (k : Int))) (by omega) (by show Sn.cells ⟨s.t, s.X + X, s.Y + ((Y : Int) - (k : Int)), s.W, s.H, s.d, s.e⟩ = _; rw [HY.out, Int.zero_add]; rfl), List.set_set, ← Hmn.out] at ho2
       have HO2 := Lib.hid ho2; have Hb2' := Lib.hid hb2'
       have k3 := (B25.out.bl hb2').all1
       clear hw2' hb2' o2' ho2 c1 hfz hgl k2
       refine wp_region_flow [(true, 0), (true, 1), (true, 2), (true, 3), (true, 4), (true, 5), (true, 6), (true, 7), (true, 8), (true, 9), (true, 10), (false, 11)] (fun i => i == 11) (by kernel_rfl) (by kernel_rfl) (by kernel_rfl) (by kernel_rfl) ?_
       iterate 2
        apply Flow.mv _ rfl
        · intro K' hK'
          simp only [sqA, Act.eval, arr_getD, List.getD_cons_zero, List.getD_cons_succ]
          exact hK'
       iterate 9
        apply Flow.calm2 _ _ rfl rfl
        · intro w' hb' K' hK'
          obtain ⟨hc', hf'⟩ := hb'.rule
          go_simp
          try go_ints
          exact hK'
        · intro K' hK'
          simp only [sqA]
          exact hK'
       refine Flow.tail _ rfl ?_
       go_wp2_with fail
       exact ⟨⟨i + 1, hil, by go_num, by rw [HC1.out], (Hb2'.out.setCell Hgb.out _).drew, own_bl HO2.out (Bl.refl _).drew⟩, by simp [RowKit.intOf]; omega⟩
     · obtain rfl : i = SS.length := by omega
       rw [movedTo_all] at hoy
       obtain ⟨Rz, cz, ez, hrz⟩ := own_reads hoy
       injection ez with ez1 _ ez2
       subst ez1 ez2
       obtain ⟨Rz, cz, ez, -, hnz⟩ := own_new hoy
       injection ez with ez1 _ ez2
       subst ez1 ez2
       obtain ⟨cK, hcK⟩ : ∃ x, x = costTo ht SS SS.length := ⟨_, rfl⟩
       have hcb := HBd.out SS.length
       rw [← hcK] at hcb ⊢
       have HcK := Lib.hid (show cK = costS ht (SK k) by rw [hcK, HSS.out]; rfl)
       have Hrz := Lib.hid (show Reads wy 7 R6 SS.length (snCells (SS.map (fun s => s.moved X ((Y : Int) - (k : Int))))) from hrz)
       have Hnz := Lib.hid hnz; have Hby := Lib.hid (Hb5.out.trans hby); have Hbr := Lib.hid (Hr5.out.trans hby)
       clear hoy hby hrz hnz hcK
       rcases Hst.out with ⟨rfl, rfl, rfl, rfl⟩ | ⟨hk0, b, R, d, hbm, rfl, rfl, rfl, hrb, hnb⟩
       · go_wp2_with fail
         exact ⟨⟨0 + 1, by omega, by go_num, Hby.out, .inr ⟨by omega, 0, R6, d6, rfl, by rw [HSS.out], rfl, by rw [HcK.out], by rw [← HSS.out]; exact Hrz.out, fun ad h => Nat.le_trans Hb5.out.le (Hnz.out ad h)⟩⟩, by simp [RowKit.intOf]; omega⟩
       · have hbn : ¬ ((b : Int) < 0) := by omega
         obtain ⟨cB, hcB⟩ : ∃ x, x = costS ht (SK b) := ⟨_, rfl⟩
         rw [← hcB]
         have HcB := Lib.hid hcB; have HBm := Lib.hid hbm; have Hrb := Lib.hid hrb; have Hnb := Lib.hid hnb
         clear hcB hbm hrb hnb
         by_cases hc : cK < cB
         · have HX := Lib.hid (show k = minTo (fun k => costS ht (SK k)) (k + 1) by
            refine (minTo_new hk0 ?_).symm
            show costS ht (SK k) < costS ht (SK (minTo (fun k => costS ht (SK k)) k))
            rw [← HBm.out, ← HcK.out, ← HcB.out]
            exact hc)
           go_wp2_with fail
           exact ⟨⟨k + 1, hlt, by go_num, Hby.out, .inr ⟨Nat.succ_pos _, k, R6, d6, HX.out, by rw [HSS.out], rfl, by rw [HcK.out], by rw [← HSS.out]; exact Hrz.out, fun ad h => Nat.le_trans Hb5.out.le (Hnz.out ad h)⟩⟩, by simp [RowKit.intOf]; omega⟩
         · have HX := Lib.hid (show b = minTo (fun k => costS ht (SK k)) (k + 1) by
            rw [HBm.out]
            refine (minTo_old hk0 ?_).symm
            show ¬ costS ht (SK k) < costS ht (SK (minTo (fun k => costS ht (SK k)) k))
            rw [← HBm.out, ← HcK.out, ← HcB.out]
            exact hc)
           go_wp2_with fail
           exact ⟨⟨k + 1, hlt, by go_num, Hby.out, .inr ⟨Nat.succ_pos _, b, R, d, HX.out, rfl, rfl, by rw [HcB.out], Hrb.out.bl Hbr.out, Hnb.out⟩⟩, by simp [RowKit.intOf]; omega⟩
  · obtain rfl : k = N := by omega
    rcases Hst.out with ⟨h0, -, -, -⟩ | ⟨hk0, b, R, d, hbm, rfl, rfl, rfl, hrb, hnb⟩
    · omega
    obtain rfl : b = bk := hbm.trans HBk.out.symm
    have Hrb := Lib.hid hrb; have Hnb := Lib.hid hnb
    have hml : ((SK b).map (fun s => s.moved X ((Y : Int) - (b : Int)))).length = (SK b).length := by rw [List.length_map]
    clear hrb hnb hbm
    go_wp2_with fail
    refine bodyPost_ret (v := .tuple #[.slice R (SK b).length d, .int .i64 b]) (by simp [results, Tryz.results14, go_sem]) rfl ⟨⟨R, d, by rw [hml], by rw [hml]; exact Hrb.out, fun ad h => by have := Hnb.out ad h; omega⟩, HW1b.out.trans Hb.out⟩
end Go.Proofs.YthobmednnocklaaGreatDoor


/-! The law LinesAreRead answers true. -/
namespace Go.Proofs.YthobmednnocklaaGreatDoor
open Go.RowKit Go.Shelf

theorem lineErrD_w {fe W H : Int} {n : Nat} (X Y BW BH most : Int) : firstNZ [fe, pageErr W H n, whenI (!inPageW X Y BW BH W H) 13, whenI (!inB most 0 1000) 3] = lineErrD fe W H n X Y BW BH most := by
 rw [← lineErrD_first]
 by_cases h1 : fe = 0
 · by_cases h2 : pageErr W H n = 0
   · have hs := sizeErr_zero (pageErr_zero h2).1
     rw [inPageW_eq (by omega) (by omega)]
   · simp [firstNZ, h1, h2]
 · simp [firstNZ, h1]
set_option maxRecDepth 100000 in
set_option maxHeartbeats 8000000 in
theorem lawLinesRead_any (W H : Int) (C : Option Addr) (an cc : Nat) (bs : List Bool) (X Y BW BH : Int) (nm : List UInt8) (ht gap sp : Int) (L : Option Addr) (lc : Nat) (ls : List Ltr) (most : Int) (w : World) (hL : LtrsAt w L ls) (hnm : nm.length ≤ 9223372036854775807) (hn : ls.length ≤ 9223372036854775807) (hlc : ls.length ≤ lc) (hC : Reads w 1 C an (bs.map .bool)) :
 Calls Tryz.prog 3 #[.agg #[.int .i64 W, .int .i64 H, .slice C an cc], .agg #[.int .i64 X, .int .i64 Y, .int .i64 BW, .int .i64 BH], .agg #[.string ⟨nm.toArray⟩, .int .i64 ht, .int .i64 gap, .int .i64 sp, .slice L ls.length lc], .int .i64 most] w fun e w' => e = .returned (.bool true) ∧ Bl w w' := by
 have hrp := fun wx hL hC => readLinePub_any nm ht gap sp L lc ls W H C an cc bs X Y BW BH most wx hL hnm hn hC
 have hfe := fun wx hL => fontError_any nm ht gap sp L lc ls wx hL hnm hn hlc
 have hbe := fun wx => bitsError_any W H C an cc wx
 have hip := fun wx => inPageOf_any X Y BW BH W H wx
 have hwe := lineErrD_w (fe := fontErr (nameB nm) ht gap sp ls) (W := W) (H := H) (n := an) X Y BW BH most
 obtain ⟨SS, hSS⟩ : ∃ y, y = readS bs W.toNat H.toNat X.toNat Y.toNat BW.toNat BH.toNat ht.toNat ls most ((gap + sp + 1) / 2) := ⟨_, rfl⟩
 obtain ⟨KK, hKK⟩ : ∃ y, y = readK bs W.toNat H.toNat X.toNat Y.toNat BW.toNat BH.toNat ht.toNat ls most ((gap + sp + 1) / 2) := ⟨_, rfl⟩
 have hlo : lineErrD (fontErr (nameB nm) ht gap sp ls) W H an X Y BW BH most = 0 → SS.length ≤ 8000 ∧ (0 ≤ KK ∨ KK = -1) ∧ ∀ wx, LtrsAt wx L ls → Reads wx 1 C an (bs.map .bool) → Calls Tryz.prog 14 #[.agg #[.int .i64 W, .int .i64 H, .slice C an cc], .agg #[.int .i64 X, .int .i64 Y, .int .i64 BW, .int .i64 BH], .agg #[.string ⟨nm.toArray⟩, .int .i64 ht, .int .i64 gap, .int .i64 sp, .slice L ls.length lc], .int .i64 most] wx fun e w' => LineRes wx.heap.size SS KK e w' ∧ Bl wx w' := fun h => by
  obtain ⟨h1, h2, h3⟩ : fontErr (nameB nm) ht gap sp ls = 0 ∧ cutErr W H an X Y BW BH = 0 ∧ inB most 0 1000 = true := by
   unfold lineErrD at h
   by_cases q1 : fontErr (nameB nm) ht gap sp ls = 0
   · rw [if_pos q1] at h
     by_cases q2 : cutErr W H an X Y BW BH = 0
     · rw [if_pos q2] at h
       refine ⟨q1, q2, ?_⟩
       cases q3 : inB most 0 1000 with
       | true => rfl
       | false => rw [q3] at h; cases h
     · rw [if_neg q2] at h; exact absurd h q2
   · rw [if_neg q1] at h; exact absurd h q1
  have hltr := (fontErr_zero h1).2
  obtain ⟨ht', gap', sp', rfl, rfl, rfl, hR⟩ := right_of h1
  obtain ⟨W', H', X', Y', B', C', rfl, rfl, rfl, rfl, rfl, rfl, rfl, hsz, q1, q2, q3, q4⟩ := line_nats h2
  simp only [Int.toNat_natCast] at hSS hKK
  have hz := sizeErr_zero hsz
  have hht := hR.ht1
  by_cases hh : C' ≤ ht'
  · refine ⟨?_, ?_, fun wx hLx hCx => ?_⟩
    · rw [hSS]
      unfold readS
      rw [if_neg (by omega), List.length_map]
      exact (lineS_cells (by omega) (by omega) (fun l hl => by
       have h := hltr l hl
       have := (pageErr_zero h.2.1).1
       exact ⟨⟨h.2.2.2, by have := sizeErr_zero this; omega⟩, textB_len h.1⟩) (by omega)).2.2.2
    · rw [hKK]
      unfold readK
      rw [if_neg (by omega)]
      exact .inl (Int.natCast_nonneg _)
    · rw [hSS, hKK]
      exact lineOf_ok nm ht' gap' sp' L lc ls W' H' C cc bs X' Y' B' C' most wx hLx hnm hn h1 hCx hsz ⟨q1, q2, q3, q4⟩ (inB_true.1 h3) hh
  · unfold readS at hSS
    unfold readK at hKK
    rw [if_pos (by omega)] at hSS hKK
    refine ⟨by rw [hSS]; simp, .inr hKK, fun wx hLx hCx => ?_⟩
    rw [hSS, hKK]
    exact lineOf_high nm ht' gap' sp' L ls.length lc W' H' C (W' * H') cc X' Y' B' C' most wx (by omega)
 rw [← hSS, ← hKK] at hrp
 obtain ⟨FE, hFE⟩ : ∃ y, y = fontErr (nameB nm) ht gap sp ls := ⟨_, rfl⟩
 obtain ⟨PE, hPE⟩ : ∃ y, y = pageErr W H an := ⟨_, rfl⟩
 obtain ⟨IW, hIW⟩ : ∃ y, y = inPageW X Y BW BH W H := ⟨_, rfl⟩
 obtain ⟨WE, hWE⟩ : ∃ y, y = lineErrD (fontErr (nameB nm) ht gap sp ls) W H an X Y BW BH most := ⟨_, rfl⟩
 rw [← hWE] at hrp hlo hwe
 rw [← hFE, ← hPE, ← hIW] at hwe
 rw [← hFE] at hfe
 rw [← hPE] at hbe
 rw [← hIW] at hip
 let w1 := (((w).alloc (.cells #[.int .i64 W, .int .i64 H, .slice C an cc] 24)).alloc (.cells #[.int .i64 X, .int .i64 Y, .int .i64 BW, .int .i64 BH] 26)).alloc (.cells #[.string ⟨nm.toArray⟩, .int .i64 ht, .int .i64 gap, .int .i64 sp, .slice L ls.length lc] 29)
 have w1b : Bl w w1 := (((Bl.refl w).alloc _).alloc _).alloc _
 have w11 : Blk w1 (w.heap.size) 24 #[.int .i64 W, .int .i64 H, .slice C an cc] := by
  have h0 := Blk.new (w) 24 #[.int .i64 W, .int .i64 H, .slice C an cc]
  exact ((h0.alloc _).alloc _)
 have w12 : Blk w1 (w.heap.size + 1) 26 #[.int .i64 X, .int .i64 Y, .int .i64 BW, .int .i64 BH] := by
  have h0 := Blk.new ((w).alloc (.cells #[.int .i64 W, .int .i64 H, .slice C an cc] 24)) 26 #[.int .i64 X, .int .i64 Y, .int .i64 BW, .int .i64 BH]
  simp only [World.size_alloc] at h0
  exact (h0.alloc _)
 have w13 : Blk w1 (w.heap.size + 1 + 1) 29 #[.string ⟨nm.toArray⟩, .int .i64 ht, .int .i64 gap, .int .i64 sp, .slice L ls.length lc] := by
  have h0 := Blk.new (((w).alloc (.cells #[.int .i64 W, .int .i64 H, .slice C an cc] 24)).alloc (.cells #[.int .i64 X, .int .i64 Y, .int .i64 BW, .int .i64 BH] 26)) 29 #[.string ⟨nm.toArray⟩, .int .i64 ht, .int .i64 gap, .int .i64 sp, .slice L ls.length lc]
  simp only [World.size_alloc] at h0
  exact h0
 have HL := Lib.hid (hL.bl w1b); have HC := Lib.hid (hC.bl w1b); have Hrp := Lib.hid hrp; have Hfe := Lib.hid hfe; have Hbe := Lib.hid hbe; have Hip := Lib.hid hip; have Hwe := Lib.hid hwe; have Hlo := Lib.hid hlo
 have Hdk := Lib.hid (fun wx => desks_any wx)
 have k1 := w11.all3
 have k2 := w12.all4
 have k3 := w13.all5
 have HW1b := Lib.hid w1b
 clear hL hC hrp hfe hbe hip hwe hlo w1b hSS hKK hFE hPE hIW hWE
 go_enter Tryz.func3, Tryz.ntmps3
 go_upto_region 1 with fail
 rw [show ((w.alloc (.cells #[.int .i64 W, .int .i64 H, .slice C an cc] 24)).alloc (.cells #[.int .i64 X, .int .i64 Y, .int .i64 BW, .int .i64 BH] 26)).alloc (.cells #[.string ⟨nm.toArray⟩, .int .i64 ht, .int .i64 gap, .int .i64 sp, .slice L ls.length lc] 29) = w1 from rfl]
 clear_value w1
 go_upto_region 2 with (go_at_call 6; refine (Hrp.out _ HL.out HC.out).mono ?_; rintro e w2 ⟨⟨R, m, d, k, rfl, hno, hyes⟩, hb2⟩)
 have Hb2 := Lib.hid hb2; have Hno := Lib.hid hno; have Hyes := Lib.hid hyes
 have k1 := (w11.bl hb2).all3
 have k2 := (w12.bl hb2).all4
 have k3 := (w13.bl hb2).all5
 clear hb2 hno hyes
 refine wp_region_flow [(true, 0), (true, 2), (true, 4), (true, 5), (true, 6), (true, 7), (true, 8), (true, 12), (false, 1), (false, 3), (false, 9), (true, 10), (false, 11), (false, 13), (true, 14), (false, 15), (false, 16), (false, 17), (true, 18)] (fun _ => false) (by kernel_rfl) (by kernel_rfl) (by kernel_rfl) (by kernel_rfl) ?_
 iterate 7
  apply Flow.calm2 _ _ rfl rfl
  · intro w' hb' K' hK'
    obtain ⟨hc', hf'⟩ := hb'.rule
    go_simp
    try go_ints
    exact hK'
  · intro K' hK'
    simp only [sqA]
    exact hK'
 iterate 1
  apply Flow.mv _ rfl
  · intro K' hK'
    simp only [sqA, Act.eval, arr_getD, List.getD_cons_zero, List.getD_cons_succ]
    exact hK'
 apply Flow.move rfl
 go_wp2_with fail
 refine (Hfe.out _ (HL.out.bl Hb2.out.drew)).mono ?_
 rintro e w3 ⟨rfl, HB1⟩
 go_wp2_with fail
 refine ⟨fun _ => (by first | exact HB1 | exact Bl.refl _), ?_⟩
 apply Flow.move rfl
 go_wp2_with fail
 refine (Hbe.out _).mono ?_
 rintro e w4 ⟨rfl, HB2⟩
 go_wp2_with fail
 refine ⟨fun _ => (by first | exact HB2 | exact Bl.refl _), ?_⟩
 apply Flow.move rfl
 go_wp2_with fail
 refine (Hip.out _).mono ?_
 rintro e w5 ⟨rfl, HB3⟩
 go_wp2_with fail
 refine ⟨fun _ => (by first | exact HB3 | exact Bl.refl _), ?_⟩
 iterate 1
  apply Flow.calm2 _ _ rfl rfl
  · intro w' hb' K' hK'
    obtain ⟨hc', hf'⟩ := hb'.rule
    go_simp
    try go_ints
    exact hK'
  · intro K' hK'
    simp only [sqA]
    exact hK'
 apply Flow.move rfl
 go_wp2_with fail
 refine (when_any _ _ _).mono ?_
 rintro e w' ⟨rfl, rfl⟩
 go_wp2_with fail
 refine ⟨fun _ => (by first | exact HB4 | exact Bl.refl _), ?_⟩
 apply Flow.move rfl
 go_wp2_with fail
 refine (in_any _ _ _ _).mono ?_
 rintro e w' ⟨rfl, rfl⟩
 go_wp2_with fail
 refine ⟨fun _ => (by first | exact HB5 | exact Bl.refl _), ?_⟩
 iterate 1
  apply Flow.calm2 _ _ rfl rfl
  · intro w' hb' K' hK'
    obtain ⟨hc', hf'⟩ := hb'.rule
    go_simp
    try go_ints
    exact hK'
  · intro K' hK'
    simp only [sqA]
    exact hK'
 apply Flow.move rfl
 go_wp2_with fail
 refine (when_any _ _ _).mono ?_
 rintro e w' ⟨rfl, rfl⟩
 go_wp2_with fail
 refine ⟨fun _ => (by first | exact HB6 | exact Bl.refl _), ?_⟩
 apply Flow.move rfl
 go_wp2_with fail
 first | refine ⟨fun _ => ?_, ?_⟩ | refine ⟨?_, ?_⟩
 · repeat' (first | exact Bl.refl _ | refine Bl.drewL ?_ | refine Bl.drew ?_ | refine Bl.alloc ?_ _)
 apply Flow.move rfl
 go_wp2_with fail
 refine (first4_any _ _ _ _ _ _ (Blk.new _ _ _)).mono ?_
 rintro e w' ⟨rfl, rfl⟩
 go_wp2_with fail
 refine ⟨fun _ => (by first | exact HB8 | exact Bl.refl _), ?_⟩
 iterate 1
  apply Flow.asg _ rfl
  · intro K' hK'
    simp only [sqA, Act.eval, arr_getD, List.getD_cons_zero, List.getD_cons_succ]
    exact hK'
 refine Flow.done ?_
 rw [Hwe.out]
 obtain ⟨w6, hw6⟩ : ∃ x, x = w5.alloc (.cells #[.int .i64 FE, .int .i64 PE, .int .i64 (whenI (!IW) 13), .int .i64 (whenI (!inB most 0 1000) 3)] 31) := ⟨_, rfl⟩
 have hb6 : Bl w2 w6 := by rw [hw6]; exact (((Bl.ofDrew HB1).trans HB2).trans HB3).alloc _
 rw [← hw6]
 have Hb6 := Lib.hid (Hb2.out.trans hb6); have Hb26 := Lib.hid hb6
 clear HB1 HB2 HB3 hb6 hw6 k1 k2 k3
 by_cases hz : WE ≠ 0
 · have hq : (WE != 0) = true := by simp [hz]
   obtain ⟨rfl, rfl⟩ := Hno.out hz
   clear hz
   go_wp2_with fail
   refine (Hdk.out _).mono ?_
   rintro e w7 ⟨rfl, hb7⟩
   go_wp2_with fail
   refine (Hdk.out _).mono ?_
   rintro e w8 ⟨rfl, hb8⟩
   go_wp2_with fail
   go_ret
   exact ⟨rfl, HW1b.out.trans (Hb6.out.trans (hb7.trans hb8))⟩
 have hz0 : WE = 0 := Classical.not_not.1 hz
 obtain ⟨rfl, rfl, hrd⟩ := Hyes.out hz0
 obtain ⟨hsl, hkk, hlo⟩ := Hlo.out hz0
 have Hrd := Lib.hid (hrd.bl Hb26.out); have Hlof := Lib.hid hlo
 subst hz0
 clear hz hrd hlo
 go_upto_region 5 with (go_at_call 13; refine (Hdk.out _).mono ?_; rintro e w7 ⟨rfl, hb7⟩)
 have Hb7 := Lib.hid (Hb6.out.trans hb7); have Hb67 := Lib.hid hb7
 have k1 := (w11.bl Hb7.out).all3
 have k2 := (w12.bl Hb7.out).all4
 have k3 := (w13.bl Hb7.out).all5
 clear hb7
 by_cases c1 : 16 < ht
 · go_wp2_with fail
   go_ret
   exact ⟨rfl, HW1b.out.trans Hb7.out⟩
 by_cases c2 : 200 < BW
 · go_wp2_with fail
   go_ret
   exact ⟨rfl, HW1b.out.trans Hb7.out⟩
 by_cases c3 : 12 < ls.length
 · have c3I : (12 : Int) < (ls.length : Int) := by omega
   go_wp2_with fail
   go_ret
   exact ⟨rfl, HW1b.out.trans Hb7.out⟩
 have c3I : ¬ ((12 : Int) < (ls.length : Int)) := by omega
 go_upto_region 8 with (go_at_call 14; refine (Hlof.out _ (HL.out.bl Hb7.out) (HC.out.bl Hb7.out)).mono ?_; rintro e w8 ⟨⟨R8, d8, rfl, hr8, -⟩, hb8⟩)
 have Heq := Lib.hid (equalSeen_any R R8 d d8 SS w8 (Hrd.out.bl (Hb67.out.trans hb8)) hr8 (by omega))
 have Hb8 := Lib.hid (Hb7.out.trans hb8)
 clear hr8 hb8 k1 k2 k3
 go_wp2_with (go_at_call 15; refine Heq.out.mono ?_; rintro e w9 ⟨rfl, hb9⟩)
 go_ret
 exact ⟨rfl, HW1b.out.trans (Hb8.out.trans hb9)⟩
end Go.Proofs.YthobmednnocklaaGreatDoor
