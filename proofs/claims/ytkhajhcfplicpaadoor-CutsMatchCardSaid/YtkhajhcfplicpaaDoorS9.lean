/- The law on pages, and parts of them. -/
import Derived.Test.YtkhajhcfplicpaaDoorS3
import Derived.Test.YtkhajhcfplicpaaDoorS6
import Derived.Test.YtkhajhcfplicpaaDoorS8
import Derived.Deep.CutRange
import Derived.Deep.Light

namespace Go.Proofs.YtkhajhcfplicpaaDoor
open Go.RowKit

set_option maxRecDepth 100000 in
set_option maxHeartbeats 1000000 in
theorem cuts1_makes (p q W H X Y BW BH : Nat) (A : Option Addr) (ac : Nat) (bs : List Bool) (w : World) (hp : Blk w p 24 #[.int .i64 W, .int .i64 H, .slice A (W * H) ac]) (hq : Blk w q 29 #[.int .i64 X, .int .i64 Y, .int .i64 BW, .int .i64 BH])
    (hA : Reads w 1 A (W * H) (bs.map .bool)) (hW : W ≤ 4000) (hH : H ≤ 4000) (hX : X + BW ≤ W) (hY : Y + BH ≤ H) :
    MakesPage Tryd.prog 32 #[.pointer (some ⟨p, 0, none⟩), .pointer (some ⟨q, 0, none⟩)] w BW BH ((grid BW BH (cutF bs W X Y)).map .bool) := by
  refine ⟨enters Tryd.func32 (by kernel_rfl) rfl, fun wx hx => ?_⟩
  have hb5 : Bl wx (wx.alloc (.cells #[.int .i64 0, .int .i64 0, .slice none 0 0] 24)) := (Bl.refl wx).alloc _
  have b5 := Blk.new wx 24 #[.int .i64 0, .int .i64 0, .slice none 0 0]
  have hxx := hx.trans hb5
  have k1 := (hp.bl hx).all3
  have k2 := (hq.bl hx).all4
  have l1 := (hp.bl hx).lt
  have l2 := (hq.bl hx).lt
  have hcall := cutOf_any W H X Y BW BH A ac bs (wx.alloc (.cells #[.int .i64 0, .int .i64 0, .slice none 0 0] 24)) (hA.bl hxx) hW hH hX hY
  have Hcall := Lib.hid hcall
  clear hcall hA
  go_enter Tryd.func32, Tryd.ntmps32
  go_wp2_with fail
  refine Hcall.out.mono ?_
  rintro e w6 ⟨R, rc, rfl, hR, hRn, hb6⟩
  have kr3 := (b5.bl hb6).all3
  have hle6 := hb5.trans hb6
  have hRn' : ∀ ad, R = some ad → wx.heap.size + 1 ≤ ad.block := fun ad h => by have := hRn ad h; simp at this; omega
  have HR := Lib.hid hR; have HRn := Lib.hid hRn'
  clear hR hRn hRn'
  go_wp2_with fail
  refine bodyPost_ret (v := .agg #[.int .i64 BW, .int .i64 BH, .slice R (BW * BH) rc]) (by simp [results, Tryd.results32, go_sem, kr3]) rfl ⟨_, rfl, ⟨R, rc, rfl, ?_⟩, ?_⟩
  · exact ((HR.out.store HRn.out (by simp) _).store HRn.out (by simp) _).store HRn.out (by simp) _
  · exact ((hle6.setCell (by simp) _).setCell (by simp) _).setCell (by simp) _

theorem cutErr_w {W H : Int} {n : Nat} (X Y BW BH : Int) : firstNZ [pageErr W H n, whenI (!inPageW X Y BW BH W H) 13] = cutErr W H n X Y BW BH := by
  unfold cutErr
  by_cases hp : pageErr W H n = 0
  · have hz := sizeErr_zero (pageErr_zero hp).1
    rw [inPageW_eq (by omega) (by omega)]
  · simp only [firstNZ, if_neg hp]

set_option maxRecDepth 100000 in
set_option maxHeartbeats 40000000 in
theorem lawCuts_any (bW bH gW gH : Int) (A G : Option Addr) (an ac gn gc : Nat) (bs : List Bool) (zs : List Int) (X Y BW BH w' h' : Int) (s : ByteArray) (w : World) (hA : Reads w 1 A an (bs.map .bool)) (hG : Reads w 1 G gn (zs.map (.int .u8))) (hs : s.size ≤ 9223372036854775807) :
    Calls Tryd.prog 3 #[.agg #[.int .i64 bW, .int .i64 bH, .slice A an ac], .agg #[.int .i64 gW, .int .i64 gH, .slice G gn gc], .agg #[.int .i64 X, .int .i64 Y, .int .i64 BW, .int .i64 BH], .int .i64 w', .int .i64 h', .string s] w
      fun e w2 => e = .returned (.bool true) ∧ Bl w w2 := by
  let w3 := (((w).alloc (.cells #[.int .i64 bW, .int .i64 bH, .slice A an ac] 24)).alloc (.cells #[.int .i64 gW, .int .i64 gH, .slice G gn gc] 27)).alloc (.cells #[.int .i64 X, .int .i64 Y, .int .i64 BW, .int .i64 BH] 29)
  have w3b : Bl w w3 := (((Bl.refl w).alloc _).alloc _).alloc _
  have w31 : Blk w3 (w.heap.size) 24 #[.int .i64 bW, .int .i64 bH, .slice A an ac] := by
    have h0 := Blk.new (w) 24 #[.int .i64 bW, .int .i64 bH, .slice A an ac]
    exact ((h0.alloc _).alloc _)
  have w32 : Blk w3 (w.heap.size + 1) 27 #[.int .i64 gW, .int .i64 gH, .slice G gn gc] := by
    have h0 := Blk.new ((w).alloc (.cells #[.int .i64 bW, .int .i64 bH, .slice A an ac] 24)) 27 #[.int .i64 gW, .int .i64 gH, .slice G gn gc]
    simp only [World.size_alloc] at h0
    exact (h0.alloc _)
  have w33 : Blk w3 (w.heap.size + 1 + 1) 29 #[.int .i64 X, .int .i64 Y, .int .i64 BW, .int .i64 BH] := by
    have h0 := Blk.new (((w).alloc (.cells #[.int .i64 bW, .int .i64 bH, .slice A an ac] 24)).alloc (.cells #[.int .i64 gW, .int .i64 gH, .slice G gn gc] 27)) 29 #[.int .i64 X, .int .i64 Y, .int .i64 BW, .int .i64 BH]
    simp only [World.size_alloc] at h0
    exact h0
  have HA := Lib.hid (hA.bl w3b); have HG := Lib.hid (hG.bl w3b); have Hs := Lib.hid hs
  clear hA hG hs
  have k1 := w31.all3
  go_enter Tryd.func3, Tryd.ntmps3
  go_upto_region 1 with fail
  have hw3 : (((w.alloc (.cells #[.int .i64 bW, .int .i64 bH, .slice A an ac] 24)).alloc (.cells #[.int .i64 gW, .int .i64 gH, .slice G gn gc] 27)).alloc (.cells #[.int .i64 X, .int .i64 Y, .int .i64 BW, .int .i64 BH] 29)) = w3 := rfl
  rw [hw3]
  clear hw3
  clear_value w3
  have k2 := w32.all3
  refine wp_region_flow [(true, 0), (true, 2), (false, 1), (false, 3), (true, 4), (true, 5)] (fun _ => false) (by kernel_rfl) (by kernel_rfl) (by kernel_rfl) (by kernel_rfl) ?_
  iterate 2
    apply Flow.calm2 _ _ rfl rfl
    · intro w' hb' K' hK'
      obtain ⟨hc', hf'⟩ := hb'.rule
      go_simp
      try go_ints
      exact hK'
    · intro K' hK'
      simp only [Act.put, List.setIfInBounds_toArray, List.set_cons_zero, List.set_cons_succ]
      exact hK'
  apply Flow.move rfl
  go_wp2_with fail
  refine (bitsError_any _ _ _ _ _ _).mono ?_
  rintro e w4 ⟨rfl, HB1⟩
  have hb4 : Bl w3 w4 := Bl.ofDrew HB1
  have k2' := (w32.bl hb4).all3
  go_wp2_with fail
  refine ⟨fun _ => (by first | exact HB1 | exact Bl.refl _), ?_⟩
  apply Flow.move rfl
  go_wp2_with fail
  refine (grayError_any _ _ _ _ _ _).mono ?_
  rintro e w5 ⟨rfl, HB2⟩
  go_wp2_with fail
  refine ⟨fun _ => (by first | exact HB2 | exact Bl.refl _), ?_⟩
  iterate 2
    apply Flow.asg _ rfl
    · intro K' hK'
      simp only [Act.put, Act.eval, List.setIfInBounds_toArray, List.set_cons_zero, List.set_cons_succ, arr_getD, List.getD_cons_zero, List.getD_cons_succ]
      exact hK'
  refine Flow.done ?_
  have hb5 : Bl w3 w5 := hb4.trans HB2
  clear k1 k2 k2' HB1 HB2 hb4
  go_wp2_with fail
  refine (blank_any w' h' _).mono ?_
  rintro e w6 ⟨a, b, R, m, d, rfl, n1, n2, hb6⟩
  have hb7 : Bl w3 (w6.alloc (.cells #[.int .i64 a, .int .i64 b, .slice R m d] 24)) := (hb5.trans hb6).alloc _
  have bx := Blk.new w6 24 #[.int .i64 a, .int .i64 b, .slice R m d]
  have n2' : sizeErr w' h' = 0 → a = w' ∧ b = h' ∧ (m : Int) = w' * h' ∧ Reads (w6.alloc (.cells #[.int .i64 a, .int .i64 b, .slice R m d] 24)) 1 R m ((List.replicate m false).map .bool) := fun h => let ⟨e1, e2, e3, e4⟩ := n2 h; ⟨e1, e2, e3, e4.bl ((Bl.refl _).alloc _)⟩
  have N1 := Lib.hid n1; have N2 := Lib.hid n2'
  have Hle6 := Lib.hid (show w3.heap.size ≤ w6.heap.size from (hb5.trans hb6).le)
  clear n1 n2 n2'
  go_upto_region 3 with fail
  generalize hw7 : w6.alloc (.cells #[.int .i64 a, .int .i64 b, .slice R m d] 24) = w7 at hb7 bx N2 ⊢
  clear hw7 hb6 hb5
  go_wp2_with fail
  refine (pages_any _).mono ?_
  rintro e w8 ⟨rfl, hb8⟩
  have k8 := (w31.bl (hb7.trans hb8)).all3
  go_wp2_with fail
  refine (checkBits_any _ _ _ _ _ _).mono ?_
  rintro e w9 ⟨rfl, hb9⟩
  have k9 := (w32.bl ((hb7.trans hb8).trans hb9)).all3
  clear k8
  go_wp2_with fail
  refine (checkGray_any _ _ _ _ _ _).mono ?_
  rintro e w10 ⟨rfl, hb10⟩
  clear k9
  go_wp2_with fail
  refine (isName_any s _ Hs.out).mono ?_
  rintro e w11 ⟨rfl, hb11⟩
  go_wp2_with fail
  refine (nameOf_any s _ Hs.out).mono ?_
  rintro e w12 ⟨rfl, hb12⟩
  have hb7_12 : Bl w7 w12 := (((hb8.trans hb9).trans hb10).trans hb11).trans hb12
  have hc12 := hb7.trans hb7_12
  have bx12 := bx.bl hb7_12
  have N2' : Hid (sizeErr w' h' = 0 → a = w' ∧ b = h' ∧ (m : Int) = w' * h' ∧ Reads w12 1 R m ((List.replicate m false).map .bool)) := Lib.hid fun h => let ⟨e1, e2, e3, e4⟩ := N2.out h; ⟨e1, e2, e3, e4.bl hb7_12⟩
  clear hb8 hb9 hb10 hb11 hb12 N2 bx hb7_12 hb7
  go_upto_region 5 with fail
  go_wp2_with fail
  refine (sizeError_any _ _ _).mono ?_
  rintro e w13 ⟨rfl, hb13⟩
  have hc13 := hc12.trans hb13
  have bx13 := bx12.bl hb13
  have N3 : Hid (sizeErr w' h' = 0 → a = w' ∧ b = h' ∧ (m : Int) = w' * h' ∧ Reads w13 1 R m ((List.replicate m false).map .bool)) := Lib.hid fun h => let ⟨e1, e2, e3, e4⟩ := N2'.out h; ⟨e1, e2, e3, e4.bl hb13⟩
  clear hb13 N2' bx12 hc12
  go_upto_region 6 with fail
  obtain ⟨E, hE⟩ : ∃ E, E = sizeErr w' h' := ⟨_, rfl⟩
  rw [← hE] at N3 N1 ⊢
  have HE := Lib.hid hE
  clear hE
  go_cut [99] from 51 to 99 (fun s99 wc => s99 = .bool false ∧ Bl w13 wc)
  case first =>
    by_cases he : E = 0
    · have hq : (E == 0) = true := by simp [he]
      have hq2 : (E != 0) = false := by simp [he]
      obtain ⟨rfl, rfl, hm, hr⟩ := N3.out he
      have hz := sizeErr_zero (HE.out.symm.trans he)
      obtain ⟨wn, rfl⟩ := Int.eq_ofNat_of_zero_le (show 0 ≤ a by go_light; omega)
      obtain ⟨hn, rfl⟩ := Int.eq_ofNat_of_zero_le (show 0 ≤ b by go_light; omega)
      have hmn : m ≤ 1099511627776 := by go_light; omega
      have hrange : 0 ≤ (wn : Int) * (hn : Int) ∧ (wn : Int) * (hn : Int) ≤ 1048576 := by go_light; omega
      have kx := bx13.all3
      have hno : decide (true ∈ List.replicate m false) = false := decide_eq_false (by simp)
      have HR := Lib.hid hr; have Hno := Lib.hid hno
      have hlen : ((m : Int) != (wn : Int) * (hn : Int)) = false := by simp [hm]
      clear he hz hr hno hm
      go_wp2_with fail
      refine (containsB_any R m d _ true _ HR.out hmn).mono ?_
      rintro e w14 ⟨rfl, rfl⟩
      rw [Hno.out]
      go_wp2_with fail
      go_meet
      case rel => exact ⟨rfl, Bl.refl _⟩
    · have hq : (E == 0) = false := by simp [he]
      have hq2 : (E != 0) = true := by simp [he]
      obtain ⟨rfl, rfl, rfl, rfl, rfl⟩ := N1.out he
      have kx := bx13.all3
      clear he
      go_wp2_with fail
      refine (noBits_zero _).mono ?_
      rintro e w14 ⟨rfl, hb14⟩
      go_wp2_with fail
      go_meet
      case rel => exact ⟨rfl, hb14⟩
  case rest =>
    rename World => w14
    obtain ⟨rfl, hcut⟩ := hcut
    have hc14 := hc13.trans hcut
    have bx14 := bx13.bl hcut
    clear hcut bx13 hc13 N1 N3 HE
    have k1 := (w31.bl hc14).all3
    have k3 := (w33.bl hc14).all4
    obtain ⟨E2, hE2⟩ : ∃ E, E = cutErr bW bH an X Y BW BH := ⟨_, rfl⟩
    have cc := fun w h => cut_any bW bH A an ac bs X Y BW BH w h
    have hf2 := cutErr_w (W := bW) (H := bH) (n := an) X Y BW BH
    rw [← hE2] at cc hf2
    have Cc := Lib.hid cc; have HE2 := Lib.hid hE2; have Hf2 := Lib.hid hf2
    clear cc hE2 hf2
    go_wp2_with fail
    refine (Cc.out _ (HA.out.bl hc14)).mono ?_
    rintro e w15 ⟨a2, b2, R2, m2, d2, rfl, res2, hb15⟩
    have hc15 := hc14.trans hb15
    have bx15 := bx14.bl hb15
    have kx := bx15.all3
    have bset := ((bx15.set_ 0 (.int .i64 a2)).set_ 1 (.int .i64 b2)).set_ 2 (.slice R2 m2 d2)
    have hc16 : Bl w3 (((w15.setCell ⟨w6.heap.size, 0, none⟩ (.int .i64 a2)).setCell ⟨w6.heap.size, 1, none⟩ (.int .i64 b2)).setCell ⟨w6.heap.size, 2, none⟩ (.slice R2 m2 d2)) := ((hc15.setCell Hle6.out _).setCell Hle6.out _).setCell Hle6.out _
    have bset' : Blk (((w15.setCell ⟨w6.heap.size, 0, none⟩ (.int .i64 a2)).setCell ⟨w6.heap.size, 1, none⟩ (.int .i64 b2)).setCell ⟨w6.heap.size, 2, none⟩ (.slice R2 m2 d2)) w6.heap.size 24 #[.int .i64 a2, .int .i64 b2, .slice R2 m2 d2] := by simpa using bset
    have hlt14 := bx14.lt
    have res3 : Res w14.heap.size (((w15.setCell ⟨w6.heap.size, 0, none⟩ (.int .i64 a2)).setCell ⟨w6.heap.size, 1, none⟩ (.int .i64 b2)).setCell ⟨w6.heap.size, 2, none⟩ (.slice R2 m2 d2)) E2 BW.toNat BH.toNat ((grid BW.toNat BH.toNat (cutF bs bW.toNat X.toNat Y.toNat)).map .bool) a2 b2 R2 m2 d2 :=
      ⟨fun e => (((res2.1 e).store (p := ⟨w6.heap.size, 0, none⟩) hlt14 _).store (p := ⟨w6.heap.size, 1, none⟩) hlt14 _).store (p := ⟨w6.heap.size, 2, none⟩) hlt14 _, res2.2⟩
    have B16 := Lib.hid bset'; have Res3 := Lib.hid res3; have Hc16 := Lib.hid hc16
    clear bset bset' hc16 res2 res3 k1 k3 hlt14
    go_upto_region 9 with fail
    generalize hw16 : (((w15.setCell ⟨w6.heap.size, 0, none⟩ (.int .i64 a2)).setCell ⟨w6.heap.size, 1, none⟩ (.int .i64 b2)).setCell ⟨w6.heap.size, 2, none⟩ (.slice R2 m2 d2)) = w16 at B16 Res3 Hc16 ⊢
    have k1 := (w31.bl Hc16.out).all3
    have k3 := (w33.bl Hc16.out).all4
    have kx := B16.out.all3
    have hf2 := Hf2.out
    clear hw16 bx14 bx15 hb15 hc15 hc14
    refine wp_region_flow [(true, 0), (true, 1), (true, 2), (true, 3), (true, 4), (true, 5), (true, 6), (true, 7), (true, 13), (false, 8), (true, 9), (false, 10), (false, 11), (false, 12), (false, 14), (true, 15)] (fun _ => false) (by kernel_rfl) (by kernel_rfl) (by kernel_rfl) (by kernel_rfl) ?_
    iterate 1
      apply Flow.calm2 _ _ rfl rfl
      · intro w' hb' K' hK'
        obtain ⟨hc', hf'⟩ := hb'.rule
        go_simp
        try go_ints
        exact hK'
      · intro K' hK'
        simp only [Act.put, List.setIfInBounds_toArray, List.set_cons_zero, List.set_cons_succ]
        exact hK'
    iterate 2
      apply Flow.mv _ rfl
      · intro K' hK'
        simp only [Act.put, Act.eval, List.setIfInBounds_toArray, List.set_cons_zero, List.set_cons_succ, arr_getD, List.getD_cons_zero, List.getD_cons_succ]
        exact hK'
    iterate 1
      apply Flow.calm2 _ _ rfl rfl
      · intro w' hb' K' hK'
        obtain ⟨hc', hf'⟩ := hb'.rule
        go_simp
        try go_ints
        exact hK'
      · intro K' hK'
        simp only [Act.put, List.setIfInBounds_toArray, List.set_cons_zero, List.set_cons_succ]
        exact hK'
    iterate 1
      apply Flow.calm2 _ _ rfl rfl
      · intro w' hb' K' hK'
        obtain ⟨hc', hf'⟩ := hb'.rule
        go_simp
        try go_ints
        exact hK'
      · intro K' hK'
        simp only [Act.put, List.setIfInBounds_toArray, List.set_cons_zero, List.set_cons_succ]
        exact hK'
    iterate 1
      apply Flow.calm2 _ _ rfl rfl
      · intro w' hb' K' hK'
        obtain ⟨hc', hf'⟩ := hb'.rule
        go_simp
        try go_ints
        exact hK'
      · intro K' hK'
        simp only [Act.put, List.setIfInBounds_toArray, List.set_cons_zero, List.set_cons_succ]
        exact hK'
    iterate 1
      apply Flow.calm2 _ _ rfl rfl
      · intro w' hb' K' hK'
        obtain ⟨hc', hf'⟩ := hb'.rule
        go_simp
        try go_ints
        exact hK'
      · intro K' hK'
        simp only [Act.put, List.setIfInBounds_toArray, List.set_cons_zero, List.set_cons_succ]
        exact hK'
    iterate 1
      apply Flow.calm2 _ _ rfl rfl
      · intro w' hb' K' hK'
        obtain ⟨hc', hf'⟩ := hb'.rule
        go_simp
        try go_ints
        exact hK'
      · intro K' hK'
        simp only [Act.put, List.setIfInBounds_toArray, List.set_cons_zero, List.set_cons_succ]
        exact hK'
    iterate 1
      apply Flow.calm2 _ _ rfl rfl
      · intro w' hb' K' hK'
        obtain ⟨hc', hf'⟩ := hb'.rule
        go_simp
        try go_ints
        exact hK'
      · intro K' hK'
        simp only [Act.put, List.setIfInBounds_toArray, List.set_cons_zero, List.set_cons_succ]
        exact hK'
    apply Flow.move rfl
    go_wp2_with fail
    refine (inPageOf_any _ _ _ _ _ _ _).mono ?_
    rintro e w17 ⟨rfl, HB1⟩
    have hb17 : Bl w16 w17 := Bl.ofDrew HB1
    go_wp2_with fail
    refine ⟨fun _ => (by first | exact HB1 | exact Bl.refl _), ?_⟩
    iterate 1
      apply Flow.calm2 _ _ rfl rfl
      · intro w' hb' K' hK'
        obtain ⟨hc', hf'⟩ := hb'.rule
        go_simp
        try go_ints
        exact hK'
      · intro K' hK'
        simp only [Act.put, List.setIfInBounds_toArray, List.set_cons_zero, List.set_cons_succ]
        exact hK'
    apply Flow.move rfl
    go_wp2_with fail
    refine (when_any _ _ _).mono ?_
    rintro e w' ⟨rfl, rfl⟩
    go_wp2_with fail
    refine ⟨fun _ => (by first | exact HB2 | exact Bl.refl _), ?_⟩
    apply Flow.move rfl
    go_wp2_with fail
    first | refine ⟨fun _ => ?_, ?_⟩ | refine ⟨?_, ?_⟩
    · repeat' (first | exact Bl.refl _ | refine Bl.drewL ?_ | refine Bl.drew ?_ | refine Bl.alloc ?_ _)
    apply Flow.move rfl
    go_wp2_with fail
    refine (first2_any _ _ _ _ (Blk.new _ _ _)).mono ?_
    rintro e w' ⟨rfl, rfl⟩
    go_wp2_with fail
    refine ⟨fun _ => (by first | exact HB4 | exact Bl.refl _), ?_⟩
    apply Flow.move rfl
    go_wp2_with fail
    have hb18 : Bl w16 (w17.alloc (.cells #[.int .i64 (pageErr bW bH an), .int .i64 (whenI (!inPageW X Y BW BH bW bH) 13)] 30)) := hb17.alloc _
    refine (bitsIs_any _ _ _ _ _ _ _ _ _ _ _ _ _ (Res3.out.bl hb18) (fun h => by
      obtain ⟨hp, c1, c2, c3, c4, c5, c6, c7, c8⟩ := cutErr_zero (HE2.out.symm.trans h)
      obtain ⟨W, H, rfl, rfl, rfl, u1, u2, u3⟩ := page_nat hp
      obtain ⟨X, rfl⟩ := Int.eq_ofNat_of_zero_le c1
      obtain ⟨Y, rfl⟩ := Int.eq_ofNat_of_zero_le c3
      obtain ⟨BW, rfl⟩ := Int.eq_ofNat_of_zero_le (show 0 ≤ BW by go_light; omega)
      obtain ⟨BH, rfl⟩ := Int.eq_ofNat_of_zero_le (show 0 ≤ BH by go_light; omega)
      simp only [Int.toNat_natCast]
      exact cuts1_makes _ _ W H X Y BW BH A ac bs _ (w31.bl (Hc16.out.trans hb18)) (w33.bl (Hc16.out.trans hb18)) (HA.out.bl (Hc16.out.trans hb18)) u1 u2 (by go_light; omega) (by go_light; omega)) (fun h => by
      obtain ⟨hp, c1, c2, c3, c4, c5, c6, c7, c8⟩ := cutErr_zero (HE2.out.symm.trans h)
      obtain ⟨W, H, rfl, rfl, rfl, u1, u2, u3⟩ := page_nat hp
      have h1 : BW.toNat * BH.toNat ≤ 4000 * 4000 := Nat.mul_le_mul (by go_light; omega) (by go_light; omega)
      omega)).mono ?_
    rintro e w19 ⟨rfl, HB5⟩
    go_wp2_with fail
    refine ⟨fun _ => (by first | exact HB5 | exact Bl.refl _), ?_⟩
    iterate 1
      apply Flow.calm2 _ _ rfl rfl
      · intro w' hb' K' hK'
        obtain ⟨hc', hf'⟩ := hb'.rule
        go_simp
        try go_ints
        exact hK'
      · intro K' hK'
        simp only [Act.put, List.setIfInBounds_toArray, List.set_cons_zero, List.set_cons_succ]
        exact hK'
    refine Flow.done ?_
    have hc19 : Bl w3 w19 := (Hc16.out.trans hb18).trans HB5
    clear hb17 hb18 HB1 HB5 k1 k3 kx B16 Res3 Hc16 Cc HE2 Hf2 hf2
    obtain ⟨E3, hE3⟩ : ∃ E, E = cutErr gW gH gn X Y BW BH := ⟨_, rfl⟩
    have cc := fun w h => cutGray_any gW gH G gn gc zs X Y BW BH w h
    have hf3 := cutErr_w (W := gW) (H := gH) (n := gn) X Y BW BH
    rw [← hE3] at cc hf3
    have Cc := Lib.hid cc; have HE3 := Lib.hid hE3; have Hf3 := Lib.hid hf3
    clear cc hE3 hf3
    have k2 := (w32.bl hc19).all3
    have k3 := (w33.bl hc19).all4
    go_wp2_with fail
    refine (Cc.out _ (HG.out.bl hc19)).mono ?_
    rintro e w20 ⟨a3, b3, R3, m3, d3, rfl, res3, hb20⟩
    have hc21 : Bl w3 (w20.alloc (.cells #[.int .i64 a3, .int .i64 b3, .slice R3 m3 d3] 27)) := (hc19.trans hb20).alloc _
    have by21 := Blk.new w20 27 #[.int .i64 a3, .int .i64 b3, .slice R3 m3 d3]
    have Res4 := Lib.hid (res3.bl ((Bl.refl w20).alloc (.cells #[.int .i64 a3, .int .i64 b3, .slice R3 m3 d3] 27)))
    clear res3 k2 k3
    go_upto_region 12 with fail
    generalize hw21 : w20.alloc (.cells #[.int .i64 a3, .int .i64 b3, .slice R3 m3 d3] 27) = w21 at hc21 by21 Res4 ⊢
    have k2 := (w32.bl hc21).all3
    have k3 := (w33.bl hc21).all4
    have hf3 := Hf3.out
    clear hw21 hb20 hc19 Cc
    go_wp2_with fail
    refine (inPageOf_any _ _ _ _ _ _ _).mono ?_
    rintro e w22 ⟨rfl, hb22⟩
    have hb23 : Bl w21 (w22.alloc (.cells #[.int .i64 (pageErr gW gH gn), .int .i64 (whenI (!inPageW X Y BW BH gW gH) 13)] 30)) := hb22.alloc _
    have Hb23 := Lib.hid hb23
    clear hb23
    go_upto_region 13 with (first | (go_at_call 30; refine (when_any _ _ _).mono ?_; rintro e w' ⟨rfl, rfl⟩) | (go_at_call 29; refine (first2_any _ _ _ _ (Blk.new _ _ _)).mono ?_; rintro e w' ⟨rfl, rfl⟩))
    generalize hw23 : w22.alloc (.cells #[.int .i64 (pageErr gW gH gn), .int .i64 (whenI (!inPageW X Y BW BH gW gH) 13)] 30) = w23 at Hb23 ⊢
    have hb23 := Hb23.out
    have hc23 := hc21.trans hb23
    have ky := (by21.bl hb23).all3
    clear hw23 k2 k3 hb22 hf3
    by_cases he : E3 = 0
    · have hq : (E3 == 0) = true := by simp [he]
      have hq2 : (E3 != 0) = false := by simp [he]
      obtain ⟨hp, c1, c2, c3, c4, c5, c6, c7, c8⟩ := cutErr_zero (HE3.out.symm.trans he)
      have hpg := (Res4.out.1 he).is.bl hb23
      obtain ⟨W, H, rfl, rfl, rfl, u1, u2, u3⟩ := page_nat hp
      obtain ⟨X, rfl⟩ := Int.eq_ofNat_of_zero_le c1
      obtain ⟨Y, rfl⟩ := Int.eq_ofNat_of_zero_le c3
      obtain ⟨BW, rfl⟩ := Int.eq_ofNat_of_zero_le (show 0 ≤ BW by go_light; omega)
      obtain ⟨BH, rfl⟩ := Int.eq_ofNat_of_zero_le (show 0 ≤ BH by go_light; omega)
      simp only [Int.toNat_natCast] at hpg
      have q1 : BW ≤ 4000 := by go_light; omega
      have q2 : BH ≤ 4000 := by go_light; omega
      have q3 : BW * BH ≤ 4000 * 4000 := Nat.mul_le_mul q1 q2
      have qX : X + BW ≤ W := by go_light; omega
      have qY : Y + BH ≤ H := by go_light; omega
      have v1 : BW ≤ 1048576 := Nat.le_trans q1 (by decide)
      have v2 : BH ≤ 1048576 := Nat.le_trans q2 (by decide)
      have v3 : BW * BH ≤ 17179869184 := Nat.le_trans q3 (by decide)
      have v4 : BW * BH ≤ 1099511627776 := Nat.le_trans q3 (by decide)
      have hP : Paints Tryd.prog 38 #[.pointer (some ⟨w.heap.size + 1, 0, none⟩), .pointer (some ⟨w.heap.size + 1 + 1, 0, none⟩)] (Value.int .u8) w23 BW BH (cutGF zs W X Y) :=
        ⟨enters Tryd.func38 (by kernel_rfl) rfl, fun wx x y hb hx hy => cuts2_any _ _ W H X Y BW BH G gc zs x y wx ((w32.bl hc23).bl hb) ((w33.bl hc23).bl hb) ((HG.out.bl hc23).bl hb) u1 u2 hx hy qX qY⟩
      have HP := Lib.hid hP; have Hpg := Lib.hid hpg
      have V4 := Lib.hid v4; have V3 := Lib.hid v3
      have k3 := (w33.bl hc23).all4
      clear hP hpg hp c1 c2 c3 c4 c5 c6 c7 c8 he q1 q2 q3 qX qY v3 v4 HE3 Hf3 Res4
      go_upto_region 15 with fail
      refine wp_region_flow [(true, 0), (true, 1), (true, 2), (true, 3), (true, 4), (true, 5), (true, 6), (true, 7), (true, 8), (false, 9), (false, 10), (true, 11), (true, 12)] (fun _ => false) (by kernel_rfl) (by kernel_rfl) (by kernel_rfl) (by kernel_rfl) ?_
      iterate 1
        apply Flow.mv _ rfl
        · intro K' hK'
          simp only [Act.put, Act.eval, List.setIfInBounds_toArray, List.set_cons_zero, List.set_cons_succ, arr_getD, List.getD_cons_zero, List.getD_cons_succ]
          exact hK'
      iterate 1
        apply Flow.calm2 _ _ rfl rfl
        · intro w' hb' K' hK'
          obtain ⟨hc', hf'⟩ := hb'.rule
          go_simp
          try go_ints
          exact hK'
        · intro K' hK'
          simp only [Act.put, List.setIfInBounds_toArray, List.set_cons_zero, List.set_cons_succ]
          exact hK'
      iterate 1
        apply Flow.mv _ rfl
        · intro K' hK'
          simp only [Act.put, Act.eval, List.setIfInBounds_toArray, List.set_cons_zero, List.set_cons_succ, arr_getD, List.getD_cons_zero, List.getD_cons_succ]
          exact hK'
      first
        | (apply Flow.pass rfl (by rfl))
        | (apply Flow.calmG _ rfl (by rfl)
           · intro w' hb'
             obtain ⟨hc', hf'⟩ := hb'.rule
             go_simp
             all_goals (try rfl))
      simp only [Act.put, List.setIfInBounds_toArray, List.set_cons_zero, List.set_cons_succ]
      try go_ints
      first
        | (apply Flow.pass rfl (by rfl))
        | (apply Flow.calmG _ rfl (by rfl)
           · intro w' hb'
             obtain ⟨hc', hf'⟩ := hb'.rule
             go_simp
             all_goals (try rfl))
      simp only [Act.put, List.setIfInBounds_toArray, List.set_cons_zero, List.set_cons_succ]
      try go_ints
      first
        | (apply Flow.pass rfl (by rfl))
        | (apply Flow.calmG _ rfl (by rfl)
           · intro w' hb'
             obtain ⟨hc', hf'⟩ := hb'.rule
             go_simp
             all_goals (try rfl))
      simp only [Act.put, List.setIfInBounds_toArray, List.set_cons_zero, List.set_cons_succ]
      try go_ints
      first
        | (apply Flow.pass rfl (by rfl))
        | (apply Flow.calmG _ rfl (by rfl)
           · intro w' hb'
             obtain ⟨hc', hf'⟩ := hb'.rule
             go_simp
             all_goals (try rfl))
      simp only [Act.put, List.setIfInBounds_toArray, List.set_cons_zero, List.set_cons_succ]
      try go_ints
      first
        | (apply Flow.pass rfl (by rfl))
        | (apply Flow.calmG _ rfl (by rfl)
           · intro w' hb'
             obtain ⟨hc', hf'⟩ := hb'.rule
             go_simp
             all_goals (try rfl))
      simp only [Act.put, List.setIfInBounds_toArray, List.set_cons_zero, List.set_cons_succ]
      try go_ints
      first
        | (apply Flow.pass rfl (by rfl))
        | (apply Flow.calmG _ rfl (by rfl)
           · intro w' hb'
             obtain ⟨hc', hf'⟩ := hb'.rule
             go_simp
             all_goals (try rfl))
      simp only [Act.put, List.setIfInBounds_toArray, List.set_cons_zero, List.set_cons_succ]
      try go_ints
      -- a guarded mover
      apply Flow.move rfl
      go_wp2_with fail
      refine (MadeGray_any BW BH _ _ _ _ v1 v2 V3.out (HP.out.bl ((Bl.refl _).drew))).mono ?_
      rintro e w24 ⟨r, rfl, hpg2, HB1⟩
      have hb24 : Bl w23 w24 := Bl.ofDrew HB1
      go_wp2_with fail
      refine ⟨fun _ => (by first | exact HB1 | exact Bl.refl _), ?_⟩
      -- a guarded mover
      apply Flow.move rfl
      go_wp2_with fail
      refine (sameGray_any BW BH _ r (grid BW BH (cutGF zs W X Y)) _ (Hpg.out.bl hb24) hpg2.is V4.out).mono ?_
      rintro e w25 ⟨rfl, HB2⟩
      go_wp2_with fail
      refine ⟨fun _ => (by first | exact HB2 | exact Bl.refl _), ?_⟩
      iterate 1
        apply Flow.calm2 _ _ rfl rfl
        · intro w' hb' K' hK'
          obtain ⟨hc', hf'⟩ := hb'.rule
          go_simp
          try go_ints
          exact hK'
        · intro K' hK'
          simp only [Act.put, List.setIfInBounds_toArray, List.set_cons_zero, List.set_cons_succ]
          exact hK'
      iterate 1
        apply Flow.asg _ rfl
        · intro K' hK'
          simp only [Act.put, Act.eval, List.setIfInBounds_toArray, List.set_cons_zero, List.set_cons_succ, arr_getD, List.getD_cons_zero, List.getD_cons_succ]
          exact hK'
      refine Flow.done ?_
      go_wp2_with fail
      go_ret
      exact ⟨rfl, ((w3b.trans hc23).trans hb24).trans HB2⟩
    · have hq : (E3 == 0) = false := by simp [he]
      have hq2 : (E3 != 0) = true := by simp [he]
      obtain ⟨rfl, rfl, rfl, rfl, rfl⟩ := Res4.out.2 he
      clear he
      go_wp2_with fail
      refine (noGray_zero _).mono ?_
      rintro e w24 ⟨rfl, hb24⟩
      go_wp2_with fail
      go_ret
      exact ⟨rfl, (w3b.trans hc23).trans hb24⟩

end Go.Proofs.YtkhajhcfplicpaaDoor
