/- The law FontsMatch answers true. -/
import Derived.Test.YtkhajhcfplicpaaDoorS59
import Derived.Test.YtkhajhcfplicpaaDoorS60
import Derived.Test.YtkhajhcfplicpaaDoorS34
import Derived.Test.YtkhajhcfplicpaaDoorS25

namespace Go.Proofs.YtkhajhcfplicpaaDoor
open Go.RowKit

set_option maxRecDepth 100000 in
set_option maxHeartbeats 1000000 in
theorem fontsIs_any (b : Nat) (t : List UInt8) (y : Ltr) (w : World) (hb : Blk w b 9 #[.string ⟨t.toArray⟩]) :
    Calls Tryd.prog 82 #[y.val, .pointer (some ⟨b, 0, none⟩)] w fun e w' => e = .returned (.bool (decide (y.text = t))) ∧ Bl w w' := by
  have k1 := hb.all1
  have hlt := hb.lt
  unfold Ltr.val
  by_cases he : y.text = t
  · rw [decide_eq_true he]
    go_enter Tryd.func82, Tryd.ntmps82
    go_wp2_with fail
    go_ret
    exact ⟨by simp [he], (Bl.refl _).alloc _⟩
  · rw [decide_eq_false he]
    go_enter Tryd.func82, Tryd.ntmps82
    go_wp2_with fail
    go_ret
    exact ⟨by simp [he], (Bl.refl _).alloc _⟩
theorem fontsIs_tests (b : Nat) (t : List UInt8) (ls : List Ltr) (w : World) (hb : Blk w b 9 #[.string ⟨t.toArray⟩]) : Tests Tryd.prog 82 #[.pointer (some ⟨b, 0, none⟩)] w ls (fun y => decide (y.text = t)) :=
  ⟨enters Tryd.func82 (by kernel_rfl) rfl, fun wy y hy _ => fontsIs_any b t y wy (hb.bl hy)⟩
set_option maxRecDepth 100000 in
set_option maxHeartbeats 1000000 in
theorem fonts2_makes (g1 g2 : Nat) (nm : List UInt8) (ht gap sp : Nat) (adl : Addr) (c : Nat) (ls : List Ltr) (t : List UInt8) (l : List (Option Nat)) (w : World) (h1 : Blk w g1 67 #[.string ⟨nm.toArray⟩, .int .i64 ht, .int .i64 gap, .int .i64 sp, .slice (some adl) ls.length c]) (h2 : Blk w g2 9 #[.string ⟨t.toArray⟩])
    (hL : LtrsAt w (some adl) ls) (hR : Right ht gap sp ls) (htl : t.length ≤ 1048576) (hl : spelt ls t = some l) (hW4 : wideOf ls gap sp t ≤ 4000) :
    MakesPage Tryd.prog 86 #[.pointer (some ⟨g1, 0, none⟩), .pointer (some ⟨g2, 0, none⟩)] w (wideOf ls gap sp t) ht ((setCells ls ht gap sp t).map .bool) := by
  refine ⟨enters Tryd.func86 (by kernel_rfl) rfl, fun wx hx => ?_⟩
  have hb5 : Bl wx (wx.alloc (.cells #[.int .i64 0, .int .i64 0, .slice none 0 0] 24)) := (Bl.refl wx).alloc _
  have b5 := Blk.new wx 24 #[.int .i64 0, .int .i64 0, .slice none 0 0]
  have hxx := hx.trans hb5
  have k1 := (h1.bl hx).all5
  have k2 := (h2.bl hx).all1
  have l1 := (h1.bl hx).lt
  have l2 := (h2.bl hx).lt
  have hwo : wideOf ls gap sp t = (goAll ls gap sp (0, false) l).1 := by unfold wideOf; rw [itemsOf_some hl]
  have hsc : setCells ls ht gap sp t = grid (wideOf ls gap sp t) ht (setF ls (putAt ls gap sp (0, false) l)) := by unfold setCells; rw [itemsOf_some hl]
  obtain ⟨W, hW⟩ : ∃ W, W = wideOf ls gap sp t := ⟨_, rfl⟩
  rw [← hW] at hwo hsc hW4 ⊢
  have hcall := setOf_any nm ht gap sp adl c ls t l W (wx.alloc (.cells #[.int .i64 0, .int .i64 0, .slice none 0 0] 24)) (hL.bl hxx) hR htl hl hwo hW4
  rw [← hsc] at hcall
  have Hcall := Lib.hid hcall
  clear hcall hL hR hl hwo hsc hW
  go_enter Tryd.func86, Tryd.ntmps86
  go_wp2_with fail
  refine Hcall.out.mono ?_
  rintro e w6 ⟨R, rc, rfl, hR, hRn, hb6⟩
  have kr3 := (b5.bl hb6).all3
  have hle6 := hb5.trans hb6
  have hRn' : ∀ ad, R = some ad → wx.heap.size + 1 ≤ ad.block := fun ad h => by have := hRn ad h; simp at this; omega
  have HR := Lib.hid hR; have HRn := Lib.hid hRn'
  clear hR hRn hRn'
  go_wp2_with fail
  refine bodyPost_ret (v := .agg #[.int .i64 W, .int .i64 ht, .slice R (W * ht) rc]) (by simp [results, Tryd.results86, go_sem, kr3]) rfl ⟨_, rfl, ⟨R, rc, rfl, ?_⟩, ?_⟩
  · exact ((HR.out.store HRn.out (by simp) _).store HRn.out (by simp) _).store HRn.out (by simp) _
  · exact ((hle6.setCell (by simp) _).setCell (by simp) _).setCell (by simp) _

set_option maxRecDepth 100000 in
set_option maxHeartbeats 8000000 in
theorem lawFonts_any (nm : List UInt8) (ht gap sp : Int) (L : Option Addr) (c : Nat) (ls : List Ltr) (t : List UInt8) (w : World) (hL : LtrsAt w L ls) (hnm : nm.length ≤ 9223372036854775807) (hn : ls.length ≤ 9223372036854775807) (hc : ls.length ≤ c) (htl : t.length ≤ 1048576) (hv : SubOk w) :
    Calls Tryd.prog 10 #[.agg #[.string ⟨nm.toArray⟩, .int .i64 ht, .int .i64 gap, .int .i64 sp, .slice L ls.length c], .string ⟨t.toArray⟩] w fun e w' => e = .returned (.bool true) ∧ Bl w w' := by
  let w2 := ((w).alloc (.cells #[.string ⟨nm.toArray⟩, .int .i64 ht, .int .i64 gap, .int .i64 sp, .slice L ls.length c] 67)).alloc (.cells #[.string ⟨t.toArray⟩] 9)
  have w2b : Bl w w2 := ((Bl.refl w).alloc _).alloc _
  have w21 : Blk w2 (w.heap.size) 67 #[.string ⟨nm.toArray⟩, .int .i64 ht, .int .i64 gap, .int .i64 sp, .slice L ls.length c] := by
    have h0 := Blk.new (w) 67 #[.string ⟨nm.toArray⟩, .int .i64 ht, .int .i64 gap, .int .i64 sp, .slice L ls.length c]
    exact (h0.alloc _)
  have w22 : Blk w2 (w.heap.size + 1) 9 #[.string ⟨t.toArray⟩] := by
    have h0 := Blk.new ((w).alloc (.cells #[.string ⟨nm.toArray⟩, .int .i64 ht, .int .i64 gap, .int .i64 sp, .slice L ls.length c] 67)) 9 #[.string ⟨t.toArray⟩]
    simp only [World.size_alloc] at h0
    exact h0
  have lw2 : w2.heap.size = w.heap.size + 2 := by simp [w2]
  have HL := Lib.hid (hL.bl w2b)
  have HV := Lib.hid (hv.bl w2b)
  obtain ⟨fe, hfe⟩ : ∃ x, x = fontErr (nameB nm) ht gap sp ls := ⟨_, rfl⟩
  have hfer := fontError_any nm ht gap sp L c ls w2 (hL.bl w2b) hnm hn hc
  rw [← hfe] at hfer
  have HFe := Lib.hid hfe; have Hfer := Lib.hid hfer
  have k1 := w21.all5
  have k2 := w22.all1
  clear hL hfe hfer hv
  go_enter Tryd.func10, Tryd.ntmps10
  go_wp2_with fail
  refine Hfer.out.mono ?_
  rintro e w3 ⟨rfl, hb3⟩
  clear_value w2
  clear k1 k2 Hfer
  have k1 := (w21.bl hb3).all5
  have k2 := (w22.bl hb3).all1
  have hle := letter_any nm ht gap sp L c ls t w3 (HL.out.bl hb3) hnm hn
  rw [← HFe.out] at hle
  have Hle := Lib.hid hle
  clear hle
  go_wp2_with fail
  refine Hle.out.mono ?_
  rintro e w4 ⟨tx, xa, xb, xR, xm, xd, err, rfl, herr, hbad, hok, hb34⟩
  have hb4 := hb3.trans hb34
  have HErr := Lib.hid herr; have HBad := Lib.hid hbad; have HOk := Lib.hid hok
  clear k1 k2 Hle herr hbad hok
  go_upto_region 3 with fail
  obtain ⟨w5, hw5⟩ : ∃ x, x = w4.alloc (.cells #[.string ⟨tx.toArray⟩, .int .i64 xa, .int .i64 xb, .slice xR xm xd] 111) := ⟨_, rfl⟩
  obtain ⟨o, ho⟩ : ∃ x, x = w4.heap.size := ⟨_, rfl⟩
  have bO : Blk w5 o 111 #[.string ⟨tx.toArray⟩, .int .i64 xa, .int .i64 xb, .slice xR xm xd] := by rw [hw5, ho]; exact Blk.new _ _ _
  have hb45 : Bl w4 w5 := by rw [hw5]; exact (Bl.refl _).alloc _
  rw [← hw5, ← ho]
  clear hw5 ho
  have hb5 := hb4.trans hb45
  have k1 := (w21.bl hb5).all5
  have hix := ltrIndex_any L c ls _ _ _ w5 (HL.out.bl hb5) (fontsIs_tests _ t ls w5 (w22.bl hb5)) hn
  have Hix := Lib.hid hix
  clear hix
  go_wp2_with fail
  refine Hix.out.mono ?_
  rintro e w6 ⟨i, rfl, hfi, hb56⟩
  have herr := HErr.out i hfi
  have HFi := Lib.hid hfi
  have hb6 := hb5.trans hb56
  have HE := Lib.hid herr
  clear k1 Hix hfi herr
  go_wp2_with fail
  refine (when_any _ _ _).mono ?_
  rintro e w' ⟨rfl, rfl⟩
  go_wp2_with fail
  refine (first2_any _ _ _ _ (Blk.new _ _ _)).mono ?_
  rintro e w' ⟨rfl, rfl⟩
  go_upto_region 5 with fail
  rw [← HE.out]
  obtain ⟨w7, hw7⟩ : ∃ x, x = w6.alloc (.cells #[.int .i64 fe, .int .i64 (whenI (decide (i < 0)) 10)] 30) := ⟨_, rfl⟩
  have hb67 : Bl w6 w7 := by rw [hw7]; exact (Bl.refl _).alloc _
  rw [← hw7]
  clear hw7
  have hb7 := hb6.trans hb67
  have bO7 := bO.bl (hb56.trans hb67)
  go_cut [81] from 31 to 81 (fun s81 wc => s81 = .bool false ∧ Bl w7 wc)
  case first =>
    have hff : (fe != fe) = false := bne_self_eq_false fe
    have hee : (err != err) = false := bne_self_eq_false err
    by_cases hz : err = 0
    case neg =>
      obtain ⟨rfl, rfl, rfl, rfl, rfl, rfl⟩ := HBad.out hz
      have hq : (err != 0) = true := by simp [hz]
      have hq2 : (err == 0) = false := by simp [hz]
      have k1 := (w21.bl hb7).all5
      have k2 := (w22.bl hb7).all1
      have k9 := bO7.all4
      clear hz
      refine wp_region_flow [(false, 0), (true, 1), (true, 2), (true, 3), (true, 5), (false, 4), (true, 6), (true, 7), (true, 8), (true, 9), (true, 10), (true, 11), (true, 12), (true, 13), (true, 14), (true, 15), (true, 16), (true, 17), (true, 18), (true, 19), (true, 20), (true, 21), (true, 22), (false, 23), (true, 24), (true, 25), (true, 26), (true, 27), (true, 28), (true, 29), (true, 30), (true, 31), (true, 32), (true, 33), (true, 34), (true, 35), (true, 36), (true, 37), (true, 38), (true, 39), (true, 40), (true, 41), (true, 42), (true, 43), (true, 44), (true, 45), (false, 46), (true, 47), (true, 48), (true, 49), (true, 50)] (fun _ => false) (by kernel_rfl) (by kernel_rfl) (by kernel_rfl) (by kernel_rfl) ?_
      apply Flow.move rfl
      go_wp2_with fail
      refine (glyphs_any _).mono ?_
      rintro e w8 ⟨rfl, HB1⟩
      have hb78 : Bl w7 w8 := Bl.ofDrew HB1
      have k1 := (w21.bl (hb7.trans hb78)).all5
      have k9 := (bO7.bl hb78).all4
      go_wp2_with fail
      refine ⟨fun _ => (by first | exact HB1 | exact Bl.refl _), ?_⟩
      iterate 1
        apply Flow.calm2 _ _ rfl rfl
        · intro w' hb' K' hK'
          obtain ⟨hc', hf'⟩ := hb'.rule
          go_simp
          try go_ints
          exact hK'
        · intro K' hK'
          simp only [Act.put, List.setIfInBounds_toArray, List.set_cons_zero, List.set_cons_succ]
          exact hK'
      iterate 1
        apply Flow.mv _ rfl
        · intro K' hK'
          simp only [Act.put, Act.eval, List.setIfInBounds_toArray, List.set_cons_zero, List.set_cons_succ, arr_getD, List.getD_cons_zero, List.getD_cons_succ]
          exact hK'
      first
        | (apply Flow.pass rfl (by rfl))
        | (apply Flow.calmG _ rfl (by rfl)
           · intro w' hb'
             obtain ⟨hc', hf'⟩ := hb'.rule
             go_simp
             all_goals (try rfl))
      simp only [Act.put, List.setIfInBounds_toArray, List.set_cons_zero, List.set_cons_succ]
      try go_ints
      first
        | (apply Flow.pass rfl (by rfl))
        | (apply Flow.calmG _ rfl (by rfl)
           · intro w' hb'
             obtain ⟨hc', hf'⟩ := hb'.rule
             go_simp
             all_goals (try rfl))
      simp only [Act.put, List.setIfInBounds_toArray, List.set_cons_zero, List.set_cons_succ]
      try go_ints
      -- a guarded mover
      apply Flow.move rfl
      go_wp2_with fail
      refine (check_any nm ht gap sp L c ls _ (HL.out.bl (hb7.trans hb78)) hnm hn).mono ?_
      rintro e w9 ⟨rfl, HB2⟩
      rw [← HFe.out]
      have hb79 := hb78.trans HB2
      have k1 := (w21.bl (hb7.trans hb79)).all5
      have k9 := (bO7.bl hb79).all4
      go_wp2_with fail
      refine ⟨fun _ => (by first | exact HB2 | exact Bl.refl _), ?_⟩
      first
        | (apply Flow.pass rfl (by rfl))
        | (apply Flow.calmG _ rfl (by rfl)
           · intro w' hb'
             obtain ⟨hc', hf'⟩ := hb'.rule
             go_simp
             all_goals (try rfl))
      simp only [Act.put, List.setIfInBounds_toArray, List.set_cons_zero, List.set_cons_succ]
      try go_ints
      iterate 1
        apply Flow.calm2 _ _ rfl rfl
        · intro w' hb' K' hK'
          obtain ⟨hc', hf'⟩ := hb'.rule
          go_simp
          try go_ints
          exact hK'
        · intro K' hK'
          simp only [Act.put, List.setIfInBounds_toArray, List.set_cons_zero, List.set_cons_succ]
          exact hK'
      iterate 1
        apply Flow.mv _ rfl
        · intro K' hK'
          simp only [Act.put, Act.eval, List.setIfInBounds_toArray, List.set_cons_zero, List.set_cons_succ, arr_getD, List.getD_cons_zero, List.getD_cons_succ]
          exact hK'
      first
        | (apply Flow.pass rfl (by rfl))
        | (apply Flow.calmG _ rfl (by rfl)
           · intro w' hb'
             obtain ⟨hc', hf'⟩ := hb'.rule
             go_simp
             all_goals (try rfl))
      simp only [Act.put, List.setIfInBounds_toArray, List.set_cons_zero, List.set_cons_succ]
      try go_ints
      first
        | (apply Flow.pass rfl (by rfl))
        | (apply Flow.calmG _ rfl (by rfl)
           · intro w' hb'
             obtain ⟨hc', hf'⟩ := hb'.rule
             go_simp
             all_goals (try rfl))
      simp only [Act.put, List.setIfInBounds_toArray, List.set_cons_zero, List.set_cons_succ]
      try go_ints
      first
        | (apply Flow.pass rfl (by rfl))
        | (apply Flow.calmG _ rfl (by rfl)
           · intro w' hb'
             obtain ⟨hc', hf'⟩ := hb'.rule
             go_simp
             all_goals (try rfl))
      simp only [Act.put, List.setIfInBounds_toArray, List.set_cons_zero, List.set_cons_succ]
      try go_ints
      iterate 1
        apply Flow.calm2 _ _ rfl rfl
        · intro w' hb' K' hK'
          obtain ⟨hc', hf'⟩ := hb'.rule
          go_simp
          try go_ints
          exact hK'
        · intro K' hK'
          simp only [Act.put, List.setIfInBounds_toArray, List.set_cons_zero, List.set_cons_succ]
          exact hK'
      iterate 1
        apply Flow.mv _ rfl
        · intro K' hK'
          simp only [Act.put, Act.eval, List.setIfInBounds_toArray, List.set_cons_zero, List.set_cons_succ, arr_getD, List.getD_cons_zero, List.getD_cons_succ]
          exact hK'
      first
        | (apply Flow.pass rfl (by rfl))
        | (apply Flow.calmG _ rfl (by rfl)
           · intro w' hb'
             obtain ⟨hc', hf'⟩ := hb'.rule
             go_simp
             all_goals (try rfl))
      simp only [Act.put, List.setIfInBounds_toArray, List.set_cons_zero, List.set_cons_succ]
      try go_ints
      first
        | (apply Flow.pass rfl (by rfl))
        | (apply Flow.calmG _ rfl (by rfl)
           · intro w' hb'
             obtain ⟨hc', hf'⟩ := hb'.rule
             go_simp
             all_goals (try rfl))
      simp only [Act.put, List.setIfInBounds_toArray, List.set_cons_zero, List.set_cons_succ]
      try go_ints
      first
        | (apply Flow.pass rfl (by rfl))
        | (apply Flow.calmG _ rfl (by rfl)
           · intro w' hb'
             obtain ⟨hc', hf'⟩ := hb'.rule
             go_simp
             all_goals (try rfl))
      simp only [Act.put, List.setIfInBounds_toArray, List.set_cons_zero, List.set_cons_succ]
      try go_ints
      first
        | (apply Flow.pass rfl (by rfl))
        | (apply Flow.calmG _ rfl (by rfl)
           · intro w' hb'
             obtain ⟨hc', hf'⟩ := hb'.rule
             go_simp
             all_goals (try rfl))
      simp only [Act.put, List.setIfInBounds_toArray, List.set_cons_zero, List.set_cons_succ]
      try go_ints
      first
        | (apply Flow.pass rfl (by rfl))
        | (apply Flow.calmG _ rfl (by rfl)
           · intro w' hb'
             obtain ⟨hc', hf'⟩ := hb'.rule
             go_simp
             all_goals (try rfl))
      simp only [Act.put, List.setIfInBounds_toArray, List.set_cons_zero, List.set_cons_succ]
      try go_ints
      first
        | (apply Flow.pass rfl (by rfl))
        | (apply Flow.calmG _ rfl (by rfl)
           · intro w' hb'
             obtain ⟨hc', hf'⟩ := hb'.rule
             go_simp
             all_goals (try rfl))
      simp only [Act.put, List.setIfInBounds_toArray, List.set_cons_zero, List.set_cons_succ]
      try go_ints
      first
        | (apply Flow.pass rfl (by rfl))
        | (apply Flow.calmG _ rfl (by rfl)
           · intro w' hb'
             obtain ⟨hc', hf'⟩ := hb'.rule
             go_simp
             all_goals (try rfl))
      simp only [Act.put, List.setIfInBounds_toArray, List.set_cons_zero, List.set_cons_succ]
      try go_ints
      first
        | (apply Flow.pass rfl (by rfl))
        | (apply Flow.calmG _ rfl (by rfl)
           · intro w' hb'
             obtain ⟨hc', hf'⟩ := hb'.rule
             go_simp
             all_goals (try rfl))
      simp only [Act.put, List.setIfInBounds_toArray, List.set_cons_zero, List.set_cons_succ]
      try go_ints
      first
        | (apply Flow.pass rfl (by rfl))
        | (apply Flow.calmG _ rfl (by rfl)
           · intro w' hb'
             obtain ⟨hc', hf'⟩ := hb'.rule
             go_simp
             all_goals (try rfl))
      simp only [Act.put, List.setIfInBounds_toArray, List.set_cons_zero, List.set_cons_succ]
      try go_ints
      -- a guarded mover
      apply Flow.move rfl
      go_wp2_with fail
      refine (noBits_zero _).mono ?_
      rintro e w10 ⟨rfl, HB3⟩
      have hb710 := hb79.trans HB3
      go_wp2_with fail
      refine ⟨fun _ => (by first | exact HB3 | exact Bl.refl _), ?_⟩
      first
        | (apply Flow.pass rfl (by rfl))
        | (apply Flow.calmG _ rfl (by rfl)
           · intro w' hb'
             obtain ⟨hc', hf'⟩ := hb'.rule
             go_simp
             all_goals (try rfl))
      simp only [Act.put, List.setIfInBounds_toArray, List.set_cons_zero, List.set_cons_succ]
      try go_ints
      first
        | (apply Flow.pass rfl (by rfl))
        | (apply Flow.calmG _ rfl (by rfl)
           · intro w' hb'
             obtain ⟨hc', hf'⟩ := hb'.rule
             go_simp
             all_goals (try rfl))
      simp only [Act.put, List.setIfInBounds_toArray, List.set_cons_zero, List.set_cons_succ]
      try go_ints
      first
        | (apply Flow.pass rfl (by rfl))
        | (apply Flow.calmG _ rfl (by rfl)
           · intro w' hb'
             obtain ⟨hc', hf'⟩ := hb'.rule
             go_simp
             all_goals (try rfl))
      simp only [Act.put, List.setIfInBounds_toArray, List.set_cons_zero, List.set_cons_succ]
      try go_ints
      iterate 1
        apply Flow.calm2 _ _ rfl rfl
        · intro w' hb' K' hK'
          obtain ⟨hc', hf'⟩ := hb'.rule
          go_simp
          try go_ints
          exact hK'
        · intro K' hK'
          simp only [Act.put, List.setIfInBounds_toArray, List.set_cons_zero, List.set_cons_succ]
          exact hK'
      iterate 1
        apply Flow.mv _ rfl
        · intro K' hK'
          simp only [Act.put, Act.eval, List.setIfInBounds_toArray, List.set_cons_zero, List.set_cons_succ, arr_getD, List.getD_cons_zero, List.getD_cons_succ]
          exact hK'
      first
        | (apply Flow.pass rfl (by rfl))
        | (apply Flow.calmG _ rfl (by rfl)
           · intro w' hb'
             obtain ⟨hc', hf'⟩ := hb'.rule
             go_simp
             all_goals (try rfl))
      simp only [Act.put, List.setIfInBounds_toArray, List.set_cons_zero, List.set_cons_succ]
      try go_ints
      first
        | (apply Flow.pass rfl (by rfl))
        | (apply Flow.calmG _ rfl (by rfl)
           · intro w' hb'
             obtain ⟨hc', hf'⟩ := hb'.rule
             go_simp
             all_goals (try rfl))
      simp only [Act.put, List.setIfInBounds_toArray, List.set_cons_zero, List.set_cons_succ]
      try go_ints
      first
        | (apply Flow.pass rfl (by rfl))
        | (apply Flow.calmG _ rfl (by rfl)
           · intro w' hb'
             obtain ⟨hc', hf'⟩ := hb'.rule
             go_simp
             all_goals (try rfl))
      simp only [Act.put, List.setIfInBounds_toArray, List.set_cons_zero, List.set_cons_succ]
      try go_ints
      first
        | (apply Flow.pass rfl (by rfl))
        | (apply Flow.calmG _ rfl (by rfl)
           · intro w' hb'
             obtain ⟨hc', hf'⟩ := hb'.rule
             go_simp
             all_goals (try rfl))
      simp only [Act.put, List.setIfInBounds_toArray, List.set_cons_zero, List.set_cons_succ]
      try go_ints
      first
        | (apply Flow.pass rfl (by rfl))
        | (apply Flow.calmG _ rfl (by rfl)
           · intro w' hb'
             obtain ⟨hc', hf'⟩ := hb'.rule
             go_simp
             all_goals (try rfl))
      simp only [Act.put, List.setIfInBounds_toArray, List.set_cons_zero, List.set_cons_succ]
      try go_ints
      first
        | (apply Flow.pass rfl (by rfl))
        | (apply Flow.calmG _ rfl (by rfl)
           · intro w' hb'
             obtain ⟨hc', hf'⟩ := hb'.rule
             go_simp
             all_goals (try rfl))
      simp only [Act.put, List.setIfInBounds_toArray, List.set_cons_zero, List.set_cons_succ]
      try go_ints
      first
        | (apply Flow.pass rfl (by rfl))
        | (apply Flow.calmG _ rfl (by rfl)
           · intro w' hb'
             obtain ⟨hc', hf'⟩ := hb'.rule
             go_simp
             all_goals (try rfl))
      simp only [Act.put, List.setIfInBounds_toArray, List.set_cons_zero, List.set_cons_succ]
      try go_ints
      first
        | (apply Flow.pass rfl (by rfl))
        | (apply Flow.calmG _ rfl (by rfl)
           · intro w' hb'
             obtain ⟨hc', hf'⟩ := hb'.rule
             go_simp
             all_goals (try rfl))
      simp only [Act.put, List.setIfInBounds_toArray, List.set_cons_zero, List.set_cons_succ]
      try go_ints
      first
        | (apply Flow.pass rfl (by rfl))
        | (apply Flow.calmG _ rfl (by rfl)
           · intro w' hb'
             obtain ⟨hc', hf'⟩ := hb'.rule
             go_simp
             all_goals (try rfl))
      simp only [Act.put, List.setIfInBounds_toArray, List.set_cons_zero, List.set_cons_succ]
      try go_ints
      first
        | (apply Flow.pass rfl (by rfl))
        | (apply Flow.calmG _ rfl (by rfl)
           · intro w' hb'
             obtain ⟨hc', hf'⟩ := hb'.rule
             go_simp
             all_goals (try rfl))
      simp only [Act.put, List.setIfInBounds_toArray, List.set_cons_zero, List.set_cons_succ]
      try go_ints
      first
        | (apply Flow.pass rfl (by rfl))
        | (apply Flow.calmG _ rfl (by rfl)
           · intro w' hb'
             obtain ⟨hc', hf'⟩ := hb'.rule
             go_simp
             all_goals (try rfl))
      simp only [Act.put, List.setIfInBounds_toArray, List.set_cons_zero, List.set_cons_succ]
      try go_ints
      first
        | (apply Flow.pass rfl (by rfl))
        | (apply Flow.calmG _ rfl (by rfl)
           · intro w' hb'
             obtain ⟨hc', hf'⟩ := hb'.rule
             go_simp
             all_goals (try rfl))
      simp only [Act.put, List.setIfInBounds_toArray, List.set_cons_zero, List.set_cons_succ]
      try go_ints
      first
        | (apply Flow.pass rfl (by rfl))
        | (apply Flow.calmG _ rfl (by rfl)
           · intro w' hb'
             obtain ⟨hc', hf'⟩ := hb'.rule
             go_simp
             all_goals (try rfl))
      simp only [Act.put, List.setIfInBounds_toArray, List.set_cons_zero, List.set_cons_succ]
      try go_ints
      first
        | (apply Flow.pass rfl (by rfl))
        | (apply Flow.calmG _ rfl (by rfl)
           · intro w' hb'
             obtain ⟨hc', hf'⟩ := hb'.rule
             go_simp
             all_goals (try rfl))
      simp only [Act.put, List.setIfInBounds_toArray, List.set_cons_zero, List.set_cons_succ]
      try go_ints
      first
        | (apply Flow.pass rfl (by rfl))
        | (apply Flow.calmG _ rfl (by rfl)
           · intro w' hb'
             obtain ⟨hc', hf'⟩ := hb'.rule
             go_simp
             all_goals (try rfl))
      simp only [Act.put, List.setIfInBounds_toArray, List.set_cons_zero, List.set_cons_succ]
      try go_ints
      first
        | (apply Flow.pass rfl (by rfl))
        | (apply Flow.calmG _ rfl (by rfl)
           · intro w' hb'
             obtain ⟨hc', hf'⟩ := hb'.rule
             go_simp
             all_goals (try rfl))
      simp only [Act.put, List.setIfInBounds_toArray, List.set_cons_zero, List.set_cons_succ]
      try go_ints
      first
        | (apply Flow.pass rfl (by rfl))
        | (apply Flow.calmG _ rfl (by rfl)
           · intro w' hb'
             obtain ⟨hc', hf'⟩ := hb'.rule
             go_simp
             all_goals (try rfl))
      simp only [Act.put, List.setIfInBounds_toArray, List.set_cons_zero, List.set_cons_succ]
      try go_ints
      -- a guarded mover
      apply Flow.move rfl
      go_wp2_with fail
      refine ⟨fun _ => Bl.refl _, ?_⟩
      first
        | (apply Flow.pass rfl (by rfl))
        | (apply Flow.calmG _ rfl (by rfl)
           · intro w' hb'
             obtain ⟨hc', hf'⟩ := hb'.rule
             go_simp
             all_goals (try rfl))
      simp only [Act.put, List.setIfInBounds_toArray, List.set_cons_zero, List.set_cons_succ]
      try go_ints
      first
        | (apply Flow.pass rfl (by rfl))
        | (apply Flow.calmG _ rfl (by rfl)
           · intro w' hb'
             obtain ⟨hc', hf'⟩ := hb'.rule
             go_simp
             all_goals (try rfl))
      simp only [Act.put, List.setIfInBounds_toArray, List.set_cons_zero, List.set_cons_succ]
      try go_ints
      first
        | (apply Flow.pass rfl (by rfl))
        | (apply Flow.calmG _ rfl (by rfl)
           · intro w' hb'
             obtain ⟨hc', hf'⟩ := hb'.rule
             go_simp
             all_goals (try rfl))
      simp only [Act.put, List.setIfInBounds_toArray, List.set_cons_zero, List.set_cons_succ]
      try go_ints
      iterate 1
        apply Flow.calm2 _ _ rfl rfl
        · intro w' hb' K' hK'
          obtain ⟨hc', hf'⟩ := hb'.rule
          go_simp
          try go_ints
          exact hK'
        · intro K' hK'
          simp only [Act.put, List.setIfInBounds_toArray, List.set_cons_zero, List.set_cons_succ]
          exact hK'
      refine Flow.done ?_
      go_wp2_with fail
      go_meet
      case rel => exact ⟨by first | rfl | simp, hb710⟩
    case pos =>
      subst hz
      have hzz := firstNZ_zero HE.out.symm
      have z1 : fe = 0 := hzz _ (by simp)
      have z2 := whenI_zero (hzz (whenI (decide (i < 0)) 10) (by simp)) (by decide)
      have z3 := of_decide_eq_false z2
      obtain ⟨k, l, rfl, hg⟩ : ∃ (k : Nat) (l : Ltr), i = (k : Int) ∧ ls[k]? = some l := by
        rcases HFi.out with ⟨h, -⟩ | ⟨j, y, h, h1, -⟩
        · omega
        · exact ⟨j, y, h, h1⟩
      obtain ⟨rfl, rfl, rfl, rfl, hrd⟩ := HOk.out rfl k l HFi.out hg
      subst z1
      have hkl : k < ls.length := (List.getElem?_eq_some_iff.1 hg).1
      have hkl2 : (k : Int) < (ls.length : Int) := by omega
      have hkneg : ¬ (k : Int) < 0 := by omega
      have hmax : max (k : Int) 0 = (k : Int) := by omega
      obtain ⟨adl, rfl, -⟩ := (HL.out.bl hb7).at_ hg
      have hlm : l.m ≤ 1099511627776 := by
        obtain ⟨W', H', -, -, e3, -, -, h⟩ := page_nat ((fontErr_zero HFe.out.symm).2 l (List.mem_of_getElem? hg)).2.1
        omega
      have hbits := ((HL.out.bl hb7).2 l (List.mem_of_getElem? hg)).1
      have hrd7 := hrd.bl (hb45.trans (hb56.trans hb67))
      have HG := Lib.hid hg; have HBits := Lib.hid hbits; have HRd := Lib.hid hrd7
      have k1 := (w21.bl hb7).all5
      have k2 := (w22.bl hb7).all1
      have k9 := bO7.all4
      clear z2 hzz hg hrd hbits hrd7
      refine wp_region_flow [(false, 0), (true, 1), (true, 2), (true, 3), (true, 5), (false, 4), (true, 6), (true, 7), (true, 8), (true, 9), (true, 10), (true, 11), (true, 12), (true, 13), (true, 14), (true, 15), (true, 16), (true, 17), (true, 18), (true, 19), (true, 20), (true, 21), (true, 22), (false, 23), (true, 24), (true, 25), (true, 26), (true, 27), (true, 28), (true, 29), (true, 30), (true, 31), (true, 32), (true, 33), (true, 34), (true, 35), (true, 36), (true, 37), (true, 38), (true, 39), (true, 40), (true, 41), (true, 42), (true, 43), (true, 44), (true, 45), (false, 46), (true, 47), (true, 48), (true, 49), (true, 50)] (fun _ => false) (by kernel_rfl) (by kernel_rfl) (by kernel_rfl) (by kernel_rfl) ?_
      apply Flow.move rfl
      go_wp2_with fail
      refine (glyphs_any _).mono ?_
      rintro e w8 ⟨rfl, HB1⟩
      have hb78 : Bl w7 w8 := Bl.ofDrew HB1
      have k1 := (w21.bl (hb7.trans hb78)).all5
      have k2 := (w22.bl (hb7.trans hb78)).all1
      have k9 := (bO7.bl hb78).all4
      go_wp2_with fail
      refine ⟨fun _ => (by first | exact HB1 | exact Bl.refl _), ?_⟩
      iterate 1
        apply Flow.calm2 _ _ rfl rfl
        · intro w' hb' K' hK'
          obtain ⟨hc', hf'⟩ := hb'.rule
          go_simp
          try go_ints
          exact hK'
        · intro K' hK'
          simp only [Act.put, List.setIfInBounds_toArray, List.set_cons_zero, List.set_cons_succ]
          exact hK'
      iterate 1
        apply Flow.mv _ rfl
        · intro K' hK'
          simp only [Act.put, Act.eval, List.setIfInBounds_toArray, List.set_cons_zero, List.set_cons_succ, arr_getD, List.getD_cons_zero, List.getD_cons_succ]
          exact hK'
      first
        | (apply Flow.pass rfl (by rfl))
        | (apply Flow.calmG _ rfl (by rfl)
           · intro w' hb'
             obtain ⟨hc', hf'⟩ := hb'.rule
             go_simp
             all_goals (try rfl))
      simp only [Act.put, List.setIfInBounds_toArray, List.set_cons_zero, List.set_cons_succ]
      try go_ints
      first
        | (apply Flow.pass rfl (by rfl))
        | (apply Flow.calmG _ rfl (by rfl)
           · intro w' hb'
             obtain ⟨hc', hf'⟩ := hb'.rule
             go_simp
             all_goals (try rfl))
      simp only [Act.put, List.setIfInBounds_toArray, List.set_cons_zero, List.set_cons_succ]
      try go_ints
      -- a guarded mover
      apply Flow.move rfl
      go_wp2_with fail
      refine (check_any nm ht gap sp (some adl) c ls _ (HL.out.bl (hb7.trans hb78)) hnm hn).mono ?_
      rintro e w9 ⟨rfl, HB2⟩
      rw [← HFe.out]
      have hb79 := hb78.trans HB2
      have k1 := (w21.bl (hb7.trans hb79)).all5
      have k2 := (w22.bl (hb7.trans hb79)).all1
      have k9 := (bO7.bl hb79).all4
      obtain ⟨ad2, e, j1, j2, j3, j4⟩ := (HL.out.bl (hb7.trans hb79)).at_ HG.out
      injection e with e
      subst e
      go_wp2_with fail
      refine ⟨fun _ => (by first | exact HB2 | exact Bl.refl _), ?_⟩
      first
        | (apply Flow.pass rfl (by rfl))
        | (apply Flow.calmG _ rfl (by rfl)
           · intro w' hb'
             obtain ⟨hc', hf'⟩ := hb'.rule
             go_simp
             all_goals (try rfl))
      simp only [Act.put, List.setIfInBounds_toArray, List.set_cons_zero, List.set_cons_succ]
      try go_ints
      iterate 1
        apply Flow.calm2 _ _ rfl rfl
        · intro w' hb' K' hK'
          obtain ⟨hc', hf'⟩ := hb'.rule
          go_simp
          try go_ints
          exact hK'
        · intro K' hK'
          simp only [Act.put, List.setIfInBounds_toArray, List.set_cons_zero, List.set_cons_succ]
          exact hK'
      iterate 1
        apply Flow.mv _ rfl
        · intro K' hK'
          simp only [Act.put, Act.eval, List.setIfInBounds_toArray, List.set_cons_zero, List.set_cons_succ, arr_getD, List.getD_cons_zero, List.getD_cons_succ]
          exact hK'
      first
        | (apply Flow.pass rfl (by rfl))
        | (apply Flow.calmG _ rfl (by rfl)
           · intro w' hb'
             obtain ⟨hc', hf'⟩ := hb'.rule
             go_simp
             all_goals (try rfl))
      simp only [Act.put, List.setIfInBounds_toArray, List.set_cons_zero, List.set_cons_succ]
      try go_ints
      first
        | (apply Flow.pass rfl (by rfl))
        | (apply Flow.calmG _ rfl (by rfl)
           · intro w' hb'
             obtain ⟨hc', hf'⟩ := hb'.rule
             go_simp
             all_goals (try rfl))
      simp only [Act.put, List.setIfInBounds_toArray, List.set_cons_zero, List.set_cons_succ]
      try go_ints
      first
        | (apply Flow.pass rfl (by rfl))
        | (apply Flow.calmG _ rfl (by rfl)
           · intro w' hb'
             obtain ⟨hc', hf'⟩ := hb'.rule
             go_simp
             all_goals (try rfl))
      simp only [Act.put, List.setIfInBounds_toArray, List.set_cons_zero, List.set_cons_succ]
      try go_ints
      iterate 1
        apply Flow.calm2 _ _ rfl rfl
        · intro w' hb' K' hK'
          obtain ⟨hc', hf'⟩ := hb'.rule
          go_simp
          try go_ints
          exact hK'
        · intro K' hK'
          simp only [Act.put, List.setIfInBounds_toArray, List.set_cons_zero, List.set_cons_succ]
          exact hK'
      iterate 1
        apply Flow.mv _ rfl
        · intro K' hK'
          simp only [Act.put, Act.eval, List.setIfInBounds_toArray, List.set_cons_zero, List.set_cons_succ, arr_getD, List.getD_cons_zero, List.getD_cons_succ]
          exact hK'
      first
        | (apply Flow.pass rfl (by rfl))
        | (apply Flow.calmG _ rfl (by rfl)
           · intro w' hb'
             obtain ⟨hc', hf'⟩ := hb'.rule
             go_simp
             all_goals (try rfl))
      simp only [Act.put, List.setIfInBounds_toArray, List.set_cons_zero, List.set_cons_succ]
      try go_ints
      first
        | (apply Flow.pass rfl (by rfl))
        | (apply Flow.calmG _ rfl (by rfl)
           · intro w' hb'
             obtain ⟨hc', hf'⟩ := hb'.rule
             go_simp
             all_goals (try rfl))
      simp only [Act.put, List.setIfInBounds_toArray, List.set_cons_zero, List.set_cons_succ]
      try go_ints
      first
        | (apply Flow.pass rfl (by rfl))
        | (apply Flow.calmG _ rfl (by rfl)
           · intro w' hb'
             obtain ⟨hc', hf'⟩ := hb'.rule
             go_simp
             all_goals (try rfl))
      simp only [Act.put, List.setIfInBounds_toArray, List.set_cons_zero, List.set_cons_succ]
      try go_ints
      first
        | (apply Flow.pass rfl (by rfl))
        | (apply Flow.calmG _ rfl (by rfl)
           · intro w' hb'
             obtain ⟨hc', hf'⟩ := hb'.rule
             go_simp
             all_goals (try rfl))
      simp only [Act.put, List.setIfInBounds_toArray, List.set_cons_zero, List.set_cons_succ]
      try go_ints
      first
        | (apply Flow.pass rfl (by rfl))
        | (apply Flow.calmG _ rfl (by rfl)
           · intro w' hb'
             obtain ⟨hc', hf'⟩ := hb'.rule
             go_simp
             all_goals (try rfl))
      simp only [Act.put, List.setIfInBounds_toArray, List.set_cons_zero, List.set_cons_succ]
      try go_ints
      first
        | (apply Flow.pass rfl (by rfl))
        | (apply Flow.calmG _ rfl (by rfl)
           · intro w' hb'
             obtain ⟨hc', hf'⟩ := hb'.rule
             go_simp
             all_goals (try rfl))
      simp only [Act.put, List.setIfInBounds_toArray, List.set_cons_zero, List.set_cons_succ]
      try go_ints
      first
        | (apply Flow.pass rfl (by rfl))
        | (apply Flow.calmG _ rfl (by rfl)
           · intro w' hb'
             obtain ⟨hc', hf'⟩ := hb'.rule
             go_simp
             all_goals (try rfl))
      simp only [Act.put, List.setIfInBounds_toArray, List.set_cons_zero, List.set_cons_succ]
      try go_ints
      first
        | (apply Flow.pass rfl (by rfl))
        | (apply Flow.calmG _ rfl (by rfl)
           · intro w' hb'
             obtain ⟨hc', hf'⟩ := hb'.rule
             go_simp
             all_goals (try rfl))
      simp only [Act.put, List.setIfInBounds_toArray, List.set_cons_zero, List.set_cons_succ]
      try go_ints
      first
        | (apply Flow.pass rfl (by rfl))
        | (apply Flow.calmG _ rfl (by rfl)
           · intro w' hb'
             obtain ⟨hc', hf'⟩ := hb'.rule
             go_simp
             all_goals (try rfl))
      simp only [Act.put, List.setIfInBounds_toArray, List.set_cons_zero, List.set_cons_succ]
      try go_ints
      -- a guarded mover
      apply Flow.move rfl
      go_wp2_with fail
      refine ⟨fun _ => Bl.refl _, ?_⟩
      first
        | (apply Flow.pass rfl (by rfl))
        | (apply Flow.calmG _ rfl (by rfl)
           · intro w' hb'
             obtain ⟨hc', hf'⟩ := hb'.rule
             go_simp
             all_goals (try rfl))
      simp only [Act.put, List.setIfInBounds_toArray, List.set_cons_zero, List.set_cons_succ]
      try go_ints
      first
        | (apply Flow.pass rfl (by rfl))
        | (apply Flow.calmG _ rfl (by rfl)
           · intro w' hb'
             obtain ⟨hc', hf'⟩ := hb'.rule
             go_simp
             all_goals (try rfl))
      simp only [Act.put, List.setIfInBounds_toArray, List.set_cons_zero, List.set_cons_succ]
      try go_ints
      first
        | (apply Flow.pass rfl (by rfl))
        | (apply Flow.calmG _ rfl (by rfl)
           · intro w' hb'
             obtain ⟨hc', hf'⟩ := hb'.rule
             go_simp
             all_goals (try rfl))
      simp only [Act.put, List.setIfInBounds_toArray, List.set_cons_zero, List.set_cons_succ]
      try go_ints
      iterate 1
        apply Flow.calm2 _ _ rfl rfl
        · intro w' hb' K' hK'
          obtain ⟨hc', hf'⟩ := hb'.rule
          go_simp
          try go_ints
          exact hK'
        · intro K' hK'
          simp only [Act.put, List.setIfInBounds_toArray, List.set_cons_zero, List.set_cons_succ]
          exact hK'
      iterate 1
        apply Flow.mv _ rfl
        · intro K' hK'
          simp only [Act.put, Act.eval, List.setIfInBounds_toArray, List.set_cons_zero, List.set_cons_succ, arr_getD, List.getD_cons_zero, List.getD_cons_succ]
          exact hK'
      first
        | (apply Flow.pass rfl (by rfl))
        | (apply Flow.calmG _ rfl (by rfl)
           · intro w' hb'
             obtain ⟨hc', hf'⟩ := hb'.rule
             go_simp
             all_goals (try rfl))
      simp only [Act.put, List.setIfInBounds_toArray, List.set_cons_zero, List.set_cons_succ]
      try go_ints
      first
        | (apply Flow.pass rfl (by rfl))
        | (apply Flow.calmG _ rfl (by rfl)
           · intro w' hb'
             obtain ⟨hc', hf'⟩ := hb'.rule
             go_simp
             all_goals (try rfl))
      simp only [Act.put, List.setIfInBounds_toArray, List.set_cons_zero, List.set_cons_succ]
      try go_ints
      first
        | (apply Flow.pass rfl (by rfl))
        | (apply Flow.calmG _ rfl (by rfl)
           · intro w' hb'
             obtain ⟨hc', hf'⟩ := hb'.rule
             go_simp
             all_goals (try rfl))
      simp only [Act.put, List.setIfInBounds_toArray, List.set_cons_zero, List.set_cons_succ]
      try go_ints
      first
        | (apply Flow.pass rfl (by rfl))
        | (apply Flow.calmG _ rfl (by rfl)
           · intro w' hb'
             obtain ⟨hc', hf'⟩ := hb'.rule
             go_simp
             all_goals (try rfl))
      simp only [Act.put, List.setIfInBounds_toArray, List.set_cons_zero, List.set_cons_succ]
      try go_ints
      first
        | (apply Flow.pass rfl (by rfl))
        | (apply Flow.calmG _ rfl (by rfl)
           · intro w' hb'
             obtain ⟨hc', hf'⟩ := hb'.rule
             go_simp
             all_goals (try rfl))
      simp only [Act.put, List.setIfInBounds_toArray, List.set_cons_zero, List.set_cons_succ]
      try go_ints
      first
        | (apply Flow.pass rfl (by rfl))
        | (apply Flow.calmG _ rfl (by rfl)
           · intro w' hb'
             obtain ⟨hc', hf'⟩ := hb'.rule
             go_simp
             all_goals (try rfl))
      simp only [Act.put, List.setIfInBounds_toArray, List.set_cons_zero, List.set_cons_succ]
      try go_ints
      first
        | (apply Flow.pass rfl (by rfl))
        | (apply Flow.calmG _ rfl (by rfl)
           · intro w' hb'
             obtain ⟨hc', hf'⟩ := hb'.rule
             go_simp
             all_goals (try rfl))
      simp only [Act.put, List.setIfInBounds_toArray, List.set_cons_zero, List.set_cons_succ]
      try go_ints
      first
        | (apply Flow.pass rfl (by rfl))
        | (apply Flow.calmG _ rfl (by rfl)
           · intro w' hb'
             obtain ⟨hc', hf'⟩ := hb'.rule
             go_simp
             all_goals (try rfl))
      simp only [Act.put, List.setIfInBounds_toArray, List.set_cons_zero, List.set_cons_succ]
      try go_ints
      first
        | (apply Flow.pass rfl (by rfl))
        | (apply Flow.calmG _ rfl (by rfl)
           · intro w' hb'
             obtain ⟨hc', hf'⟩ := hb'.rule
             go_simp
             all_goals (try rfl))
      simp only [Act.put, List.setIfInBounds_toArray, List.set_cons_zero, List.set_cons_succ]
      try go_ints
      first
        | (apply Flow.pass rfl (by rfl))
        | (apply Flow.calmG _ rfl (by rfl)
           · intro w' hb'
             obtain ⟨hc', hf'⟩ := hb'.rule
             go_simp
             all_goals (try rfl))
      simp only [Act.put, List.setIfInBounds_toArray, List.set_cons_zero, List.set_cons_succ]
      try go_ints
      first
        | (apply Flow.pass rfl (by rfl))
        | (apply Flow.calmG _ rfl (by rfl)
           · intro w' hb'
             obtain ⟨hc', hf'⟩ := hb'.rule
             go_simp
             all_goals (try rfl))
      simp only [Act.put, List.setIfInBounds_toArray, List.set_cons_zero, List.set_cons_succ]
      try go_ints
      first
        | (apply Flow.pass rfl (by rfl))
        | (apply Flow.calmG _ rfl (by rfl)
           · intro w' hb'
             obtain ⟨hc', hf'⟩ := hb'.rule
             go_simp
             all_goals (try rfl))
      simp only [Act.put, List.setIfInBounds_toArray, List.set_cons_zero, List.set_cons_succ]
      try go_ints
      first
        | (apply Flow.pass rfl (by rfl))
        | (apply Flow.calmG _ rfl (by rfl)
           · intro w' hb'
             obtain ⟨hc', hf'⟩ := hb'.rule
             go_simp
             all_goals (try rfl))
      simp only [Act.put, List.setIfInBounds_toArray, List.set_cons_zero, List.set_cons_succ]
      try go_ints
      first
        | (apply Flow.pass rfl (by rfl))
        | (apply Flow.calmG _ rfl (by rfl)
           · intro w' hb'
             obtain ⟨hc', hf'⟩ := hb'.rule
             go_simp
             all_goals (try rfl))
      simp only [Act.put, List.setIfInBounds_toArray, List.set_cons_zero, List.set_cons_succ]
      try go_ints
      first
        | (apply Flow.pass rfl (by rfl))
        | (apply Flow.calmG _ rfl (by rfl)
           · intro w' hb'
             obtain ⟨hc', hf'⟩ := hb'.rule
             go_simp
             all_goals (try rfl))
      simp only [Act.put, List.setIfInBounds_toArray, List.set_cons_zero, List.set_cons_succ]
      try go_ints
      first
        | (apply Flow.pass rfl (by rfl))
        | (apply Flow.calmG _ rfl (by rfl)
           · intro w' hb'
             obtain ⟨hc', hf'⟩ := hb'.rule
             go_simp
             all_goals (try rfl))
      simp only [Act.put, List.setIfInBounds_toArray, List.set_cons_zero, List.set_cons_succ]
      try go_ints
      first
        | (apply Flow.pass rfl (by rfl))
        | (apply Flow.calmG _ rfl (by rfl)
           · intro w' hb'
             obtain ⟨hc', hf'⟩ := hb'.rule
             go_simp
             all_goals (try rfl))
      simp only [Act.put, List.setIfInBounds_toArray, List.set_cons_zero, List.set_cons_succ]
      try go_ints
      -- a guarded mover
      apply Flow.move rfl
      go_wp2_with fail
      refine (sameBitsG_any l.W l.H xR l.A l.m xd l.c l.bs _ (HRd.out.bl hb79) (HBits.out.bl hb79) hlm).mono ?_
      rintro e w10 ⟨rfl, HB4⟩
      have hb710 := hb79.trans HB4
      go_wp2_with fail
      refine ⟨fun _ => (by first | exact HB4 | exact Bl.refl _), ?_⟩
      first
        | (apply Flow.pass rfl (by rfl))
        | (apply Flow.calmG _ rfl (by rfl)
           · intro w' hb'
             obtain ⟨hc', hf'⟩ := hb'.rule
             go_simp
             all_goals (try rfl))
      simp only [Act.put, List.setIfInBounds_toArray, List.set_cons_zero, List.set_cons_succ]
      try go_ints
      first
        | (apply Flow.pass rfl (by rfl))
        | (apply Flow.calmG _ rfl (by rfl)
           · intro w' hb'
             obtain ⟨hc', hf'⟩ := hb'.rule
             go_simp
             all_goals (try rfl))
      simp only [Act.put, List.setIfInBounds_toArray, List.set_cons_zero, List.set_cons_succ]
      try go_ints
      first
        | (apply Flow.pass rfl (by rfl))
        | (apply Flow.calmG _ rfl (by rfl)
           · intro w' hb'
             obtain ⟨hc', hf'⟩ := hb'.rule
             go_simp
             all_goals (try rfl))
      simp only [Act.put, List.setIfInBounds_toArray, List.set_cons_zero, List.set_cons_succ]
      try go_ints
      iterate 1
        apply Flow.calm2 _ _ rfl rfl
        · intro w' hb' K' hK'
          obtain ⟨hc', hf'⟩ := hb'.rule
          go_simp
          try go_ints
          exact hK'
        · intro K' hK'
          simp only [Act.put, List.setIfInBounds_toArray, List.set_cons_zero, List.set_cons_succ]
          exact hK'
      refine Flow.done ?_
      go_wp2_with fail
      go_meet
      case rel => exact ⟨by first | rfl | simp, hb710⟩
  case rest =>
    obtain ⟨rfl, hbc⟩ := hcut
    rename World => w8
    have hb8 := hb7.trans hbc
    have k1 := (w21.bl hb8).all5
    have k2 := (w22.bl hb8).all1
    have hwd := width_any nm ht gap sp L c ls t w8 (HL.out.bl hb8) hnm hn htl (HV.out.bl hb8)
    rw [← HFe.out] at hwd
    have Hwd := Lib.hid hwd
    clear hwd
    go_wp2_with fail
    refine Hwd.out.mono ?_
    rintro e w9 ⟨x, rfl, hx1, hx2, hb89⟩
    have hb9 := hb8.trans hb89
    obtain ⟨FE, hFE⟩ : ∃ FE, FE = fsetErr fe ls ht gap sp t := ⟨_, rfl⟩
    rw [← hFE] at hx1 hx2 ⊢
    have HFE := Lib.hid hFE; have HX1 := Lib.hid hx1; have HX2 := Lib.hid hx2
    clear k1 k2 Hwd hFE hx1 hx2
    have k1 := (w21.bl hb9).all5
    have k2 := (w22.bl hb9).all1
    have hst := fset_any nm ht gap sp L c ls t w9 (HL.out.bl hb9) hnm hn (Nat.le_trans htl (by decide)) (HV.out.bl hb9)
    rw [← HFe.out] at hst
    have Hst := Lib.hid hst
    clear hst
    go_wp2_with fail
    refine Hst.out.mono ?_
    rintro e w10 ⟨a, b, R, m, d, rfl, hres, hb910⟩
    rw [← HFE.out] at hres ⊢
    have HRes := Lib.hid hres
    have hb10 := hb9.trans hb910
    clear k1 k2 Hst hres
    go_upto_region 9 with fail
    obtain ⟨w11, hw11⟩ : ∃ x, x = w10.alloc (.cells #[.int .i64 a, .int .i64 b, .slice R m d] 24) := ⟨_, rfl⟩
    obtain ⟨q, hq⟩ : ∃ x, x = w10.heap.size := ⟨_, rfl⟩
    have bQ : Blk w11 q 24 #[.int .i64 a, .int .i64 b, .slice R m d] := by rw [hw11, hq]; exact Blk.new _ _ _
    have hb1011 : Bl w10 w11 := by rw [hw11]; exact (Bl.refl _).alloc _
    rw [← hw11, ← hq]
    clear hw11 hq
    have hb11 := hb10.trans hb1011
    have k1 := (w21.bl hb11).all5
    have k2 := (w22.bl hb11).all1
    obtain ⟨TE, hTE⟩ : ∃ TE, TE = if fe = 0 then textErr ls t else fe := ⟨_, rfl⟩
    have HTE := Lib.hid hTE
    clear hTE
    go_upto_if 96 with fail
    go_cut [9] from 97 to 99 (fun s9 wc => s9 = .int .i64 TE ∧ Bl w11 wc)
    case first =>
      by_cases hz : fe = 0
      · subst hz
        obtain ⟨ht', gap', sp', rfl, rfl, rfl, hR⟩ := right_of HFe.out.symm
        obtain ⟨adl, rfl⟩ := some_at HL.out hR.many.1
        have hte := textError_any nm ht' gap' sp' adl c ls t w11 (HL.out.bl hb11) hR htl (HV.out.bl hb11)
        have hTE2 : textErr ls t = TE := by rw [HTE.out, if_pos rfl]
        rw [hTE2] at hte
        have Hte := Lib.hid hte
        clear hte hTE2 hR
        go_wp2_with fail
        refine Hte.out.mono ?_
        rintro e w12 ⟨rfl, hb12⟩
        go_wp2_with fail
        go_meet
        case rel => exact ⟨rfl, hb12⟩
      · have hq2 : (fe == 0) = false := by simp [hz]
        have HV2 := Lib.hid (show TE = fe by rw [HTE.out, if_neg hz])
        clear hz
        go_wp2_with fail
        go_meet
        case rel => exact ⟨by rw [HV2.out], Bl.refl _⟩
    case rest =>
      obtain ⟨rfl, hbc2⟩ := hcut
      rename World => w12
      clear k1 k2
      have hb12 := hb11.trans hbc2
      have k1 := (w21.bl hb12).all5
      have k2 := (w22.bl hb12).all1
      go_upto_if 101 with fail
      go_cut [9] from 102 to 107 (fun s9 wc => s9 = .int .i64 FE ∧ Bl w12 wc)
      case first =>
        by_cases hz : TE = 0
        · have hz0 : fe = 0 := by
            by_cases h : fe = 0
            · exact h
            · have h1 := HTE.out
              rw [if_neg h] at h1
              exact absurd (h1.symm.trans hz) h
          subst hz
          subst hz0
          obtain ⟨ht', gap', sp', rfl, rfl, rfl, hR⟩ := right_of HFe.out.symm
          obtain ⟨adl, rfl⟩ := some_at HL.out hR.many.1
          have hte0 : textErr ls t = 0 := by have h1 := HTE.out; rw [if_pos rfl] at h1; exact h1.symm
          obtain ⟨-, l, hl⟩ := textErr_zero hte0
          have hwo : wideOf ls gap' sp' t = (goAll ls gap' sp' (0, false) l).1 := by unfold wideOf; rw [itemsOf_some hl]
          have hFE2 : sizeErr (wideOf ls gap' sp' t : Int) (ht' : Int) = FE := by
            rw [HFE.out]
            unfold fsetErr setErr
            rw [if_pos rfl]
            simp only [Int.toNat_natCast]
            rw [if_pos hte0]
          have hwf := fun wx (hx : Bl w12 wx) => widthOf_any nm ht' gap' sp' adl c ls t l wx (HL.out.bl (hb12.trans hx)) hR htl hl
          rw [← hwo] at hwf
          obtain ⟨W, hW⟩ : ∃ W, W = wideOf ls gap' sp' t := ⟨_, rfl⟩
          rw [← hW] at hwf hFE2
          have Hwf := Lib.hid hwf; have HFE2 := Lib.hid hFE2
          clear hwf hFE2 hR hl hwo hW hte0
          go_upto_region 13 with fail
          refine wp_region_flow [(true, 0), (true, 1), (true, 3), (true, 4), (false, 2), (false, 5), (true, 6)] (fun _ => false) (by kernel_rfl) (by kernel_rfl) (by kernel_rfl) (by kernel_rfl) ?_
          iterate 2
            apply Flow.calm2 _ _ rfl rfl
            · intro w' hb' K' hK'
              obtain ⟨hc', hf'⟩ := hb'.rule
              go_simp
              try go_ints
              exact hK'
            · intro K' hK'
              simp only [Act.put, List.setIfInBounds_toArray, List.set_cons_zero, List.set_cons_succ]
              exact hK'
          iterate 1
            apply Flow.calm2 _ _ rfl rfl
            · intro w' hb' K' hK'
              obtain ⟨hc', hf'⟩ := hb'.rule
              go_simp
              try go_ints
              exact hK'
            · intro K' hK'
              simp only [Act.put, List.setIfInBounds_toArray, List.set_cons_zero, List.set_cons_succ]
              exact hK'
          iterate 1
            apply Flow.calm2 _ _ rfl rfl
            · intro w' hb' K' hK'
              obtain ⟨hc', hf'⟩ := hb'.rule
              go_simp
              try go_ints
              exact hK'
            · intro K' hK'
              simp only [Act.put, List.setIfInBounds_toArray, List.set_cons_zero, List.set_cons_succ]
              exact hK'
          apply Flow.move rfl
          go_wp2_with fail
          refine (Hwf.out _ (Bl.refl _).drew).mono ?_
          rintro e w13 ⟨rfl, HB1⟩
          go_wp2_with fail
          refine ⟨fun _ => (by first | exact HB1 | exact Bl.refl _), ?_⟩
          apply Flow.move rfl
          go_wp2_with fail
          refine (sizeError_any _ _ _).mono ?_
          rintro e w14 ⟨rfl, HB2⟩
          rw [HFE2.out]
          go_wp2_with fail
          refine ⟨fun _ => (by first | exact HB2 | exact Bl.refl _), ?_⟩
          iterate 1
            apply Flow.asg _ rfl
            · intro K' hK'
              simp only [Act.put, Act.eval, List.setIfInBounds_toArray, List.set_cons_zero, List.set_cons_succ, arr_getD, List.getD_cons_zero, List.getD_cons_succ]
              exact hK'
          refine Flow.done ?_
          go_wp2_with fail
          go_meet
          case rel => exact ⟨rfl, (Bl.ofDrew HB1).trans HB2⟩
        · have hq2 : (TE == 0) = false := by simp [hz]
          have HV2 := Lib.hid (show FE = TE by
            rw [HFE.out, HTE.out]
            rw [HTE.out] at hz
            unfold fsetErr
            by_cases h : fe = 0
            · rw [if_pos h] at hz
              rw [if_pos h, if_pos h]
              unfold setErr
              rw [if_neg hz]
            · rw [if_neg h, if_neg h])
          clear hz
          go_wp2_with fail
          go_meet
          case rel => exact ⟨by rw [HV2.out], Bl.refl _⟩
      case rest =>
        obtain ⟨rfl, hbc3⟩ := hcut
        rename World => w13
        clear k1 k2
        have hb13 := hb12.trans hbc3
        have k1 := (w21.bl hb13).all5
        have k2 := (w22.bl hb13).all1
        have hall : FE = 0 → ∃ (ht' gap' sp' : Nat) (adl : Addr) (l : List (Option Nat)), ht = (ht' : Int) ∧ gap = (gap' : Int) ∧ sp = (sp' : Int) ∧ L = some adl ∧ Right ht' gap' sp' ls ∧ spelt ls t = some l ∧ sizeErr (wideOf ls gap' sp' t : Int) (ht' : Int) = 0 := fun h0 => by
          rw [HFE.out] at h0
          unfold fsetErr at h0
          by_cases hz : fe = 0
          · rw [if_pos hz] at h0
            obtain ⟨ht', gap', sp', rfl, rfl, rfl, hR⟩ := right_of (HFe.out.symm.trans hz)
            obtain ⟨adl, rfl⟩ := some_at HL.out hR.many.1
            simp only [Int.toNat_natCast] at h0
            unfold setErr at h0
            by_cases hte : textErr ls t = 0
            · rw [if_pos hte] at h0
              obtain ⟨-, l, hl⟩ := textErr_zero hte
              exact ⟨ht', gap', sp', adl, l, rfl, rfl, rfl, rfl, hR, hl, h0⟩
            · rw [if_neg hte] at h0
              exact absurd h0 hte
          · rw [if_neg hz] at h0
            exact absurd h0 hz
        have HAll := Lib.hid hall
        clear hall
        go_upto_region 14 with fail
        go_cut [129] from 108 to 129 (fun s129 wc => s129 = .bool false ∧ Bl w13 wc)
        case first =>
          have hff : (FE != FE) = false := bne_self_eq_false FE
          by_cases hz : FE = 0
          · have hx := HX2.out hz
            obtain ⟨ht', gap', sp', adl, l, rfl, rfl, rfl, rfl, hR, hl, -⟩ := HAll.out hz
            simp only [Int.toNat_natCast] at hx
            have hwo : wideOf ls gap' sp' t = (goAll ls gap' sp' (0, false) l).1 := by unfold wideOf; rw [itemsOf_some hl]
            have hwf := widthOf_any nm ht' gap' sp' adl c ls t l w13 (HL.out.bl hb13) hR htl hl
            rw [← hwo] at hwf
            subst hx
            have hxx : ((wideOf ls gap' sp' t : Int) != (wideOf ls gap' sp' t : Int)) = false := bne_self_eq_false _
            have Hwf := Lib.hid hwf
            subst hz
            clear hwf hR hl hwo hff
            go_wp2_with fail
            refine Hwf.out.mono ?_
            rintro e w14 ⟨rfl, hb14⟩
            go_wp2_with fail
            go_meet
            case rel => exact ⟨by first | rfl | simp, hb14⟩
          · have hx := HX1.out hz
            subst hx
            have hq : (FE != 0) = true := by simp [hz]
            have hq2 : (FE == 0) = false := by simp [hz]
            clear hz
            go_wp2_with fail
            go_meet
            case rel => exact ⟨by first | rfl | simp, Bl.refl _⟩
        case rest =>
          obtain ⟨rfl, hbc4⟩ := hcut
          rename World => w14
          clear k1 k2
          have hb14 := hb13.trans hbc4
          have hq14 := hb1011.trans (hbc2.trans (hbc3.trans hbc4))
          have kQ := (bQ.bl (hbc2.trans (hbc3.trans hbc4))).all3
          have hbi := bitsIs_any w9.heap.size FE (wideOf ls gap.toNat sp.toNat t) ht.toNat (setCells ls ht.toNat gap.toNat sp.toNat t) a b R m d 86 #[.pointer (some ⟨w.heap.size, 0, none⟩), .pointer (some ⟨w.heap.size + 1, 0, none⟩)] w14 (HRes.out.bl hq14) (fun h => by
            obtain ⟨ht', gap', sp', adl, l, rfl, rfl, rfl, rfl, hR, hl, hse⟩ := HAll.out h
            simp only [Int.toNat_natCast]
            have hsz := sizeErr_zero hse
            exact fonts2_makes _ _ nm ht' gap' sp' adl c ls t l w14 (w21.bl hb14) (w22.bl hb14) (HL.out.bl hb14) hR htl hl (by omega)) (fun h => by
            obtain ⟨ht', gap', sp', adl, l, rfl, rfl, rfl, rfl, hR, hl, hse⟩ := HAll.out h
            simp only [Int.toNat_natCast]
            have hsz := sizeErr_zero hse
            have h1 := hsz.2.2.2.2
            have h2 : ((wideOf ls gap' sp' t * ht' : Nat) : Int) = (wideOf ls gap' sp' t : Int) * (ht' : Int) := by simp
            omega)
          have Hbi := Lib.hid hbi
          clear hbi
          go_wp2_with fail
          refine Hbi.out.mono ?_
          rintro e w15 ⟨rfl, hb15⟩
          go_wp2_with fail
          go_ret
          exact ⟨rfl, w2b.trans (hb14.trans hb15)⟩

end Go.Proofs.YtkhajhcfplicpaaDoor
