/- bedref2.PiecesOf. -/
import Derived.Test.YtjelhdpcaileiaaDoorS22
import Derived.Test.YtjelhdpcaileiaaDoorS2
import Derived.Test.YtjelhdpcaileiaaDoorS5

namespace Go.Proofs.YtjelhdpcaileiaaDoor
open Go.RowKit

theorem Blk.all7 {w : World} {g : Nat} {t : TypeId} {a b c d e f h : Value} (k : Blk w g t #[a, b, c, d, e, f, h]) : w.cell? ⟨g, 0, none⟩ = some a ∧ w.cell? ⟨g, 1, none⟩ = some b ∧ w.cell? ⟨g, 2, none⟩ = some c ∧ w.cell? ⟨g, 3, none⟩ = some d ∧ w.cell? ⟨g, 4, none⟩ = some e ∧ w.cell? ⟨g, 5, none⟩ = some f ∧ w.cell? ⟨g, 6, none⟩ = some h ∧ ∀ i, w.frozen? ⟨g, i, none⟩ = false :=
  ⟨k.cell 0, k.cell 1, k.cell 2, k.cell 3, k.cell 4, k.cell 5, k.cell 6, k.frozen⟩
set_option maxRecDepth 100000 in
set_option maxHeartbeats 8000000 in
theorem see_any (nm : List UInt8) (ht gap sp : Int) (L : Option Addr) (c : Nat) (ls : List Ltr) (W H X bw : Nat) (A : Option Addr) (ac : Nat) (bs : List Bool) (most : Int) (w : World) (hL : LtrsAt w L ls) (hA : Reads w 1 A (W * H) (bs.map .bool))
    (hW : W ≤ 4000) (hH : 1 ≤ H ∧ H ≤ 4000) (hWH : W * H ≤ 1048576) (hX : X + bw ≤ W) (hbw : 1 ≤ bw) (hls : ∀ l ∈ ls, pageErr l.W l.H l.m = 0 ∧ l.W ≤ 64) (hn : ls.length ≤ 200) (hm : 0 ≤ most ∧ most ≤ 1000) (hht : 1 ≤ ht ∧ ht ≤ 64) :
    Calls Tryd.prog 98 #[.agg #[.string ⟨nm.toArray⟩, .int .i64 ht, .int .i64 gap, .int .i64 sp, .slice L ls.length c], .agg #[.int .i64 W, .int .i64 H, .slice A (W * H) ac], .agg #[.int .i64 X, .int .i64 0, .int .i64 bw, .int .i64 H], .int .i64 most] w fun e w' =>
      e = .returned (.agg (seenCells (bestOf (grid bw H (cutF bs W X 0)) bw H [] ls) X bw H most ht).toArray) ∧ Bl w w' := by
  let w4 := ((((w).alloc (.cells #[.string ⟨nm.toArray⟩, .int .i64 ht, .int .i64 gap, .int .i64 sp, .slice L ls.length c] 24)).alloc (.cells #[.int .i64 W, .int .i64 H, .slice A (W * H) ac] 27)).alloc (.cells #[.int .i64 X, .int .i64 0, .int .i64 bw, .int .i64 H] 88)).alloc (.cells #[.string ⟨#[]⟩, .int .i64 0, .int .i64 0, .int .i64 0, .int .i64 0, .int .i64 0, .int .i64 0] 132)
  have w4b : Bl w w4 := ((((Bl.refl w).alloc _).alloc _).alloc _).alloc _
  have w41 : Blk w4 (w.heap.size) 24 #[.string ⟨nm.toArray⟩, .int .i64 ht, .int .i64 gap, .int .i64 sp, .slice L ls.length c] := by
    have h0 := Blk.new (w) 24 #[.string ⟨nm.toArray⟩, .int .i64 ht, .int .i64 gap, .int .i64 sp, .slice L ls.length c]
    exact (((h0.alloc _).alloc _).alloc _)
  have w42 : Blk w4 (w.heap.size + 1) 27 #[.int .i64 W, .int .i64 H, .slice A (W * H) ac] := by
    have h0 := Blk.new ((w).alloc (.cells #[.string ⟨nm.toArray⟩, .int .i64 ht, .int .i64 gap, .int .i64 sp, .slice L ls.length c] 24)) 27 #[.int .i64 W, .int .i64 H, .slice A (W * H) ac]
    simp only [World.size_alloc] at h0
    exact ((h0.alloc _).alloc _)
  have w43 : Blk w4 (w.heap.size + 1 + 1) 88 #[.int .i64 X, .int .i64 0, .int .i64 bw, .int .i64 H] := by
    have h0 := Blk.new (((w).alloc (.cells #[.string ⟨nm.toArray⟩, .int .i64 ht, .int .i64 gap, .int .i64 sp, .slice L ls.length c] 24)).alloc (.cells #[.int .i64 W, .int .i64 H, .slice A (W * H) ac] 27)) 88 #[.int .i64 X, .int .i64 0, .int .i64 bw, .int .i64 H]
    simp only [World.size_alloc] at h0
    exact (h0.alloc _)
  have w44 : Blk w4 (w.heap.size + 1 + 1 + 1) 132 #[.string ⟨#[]⟩, .int .i64 0, .int .i64 0, .int .i64 0, .int .i64 0, .int .i64 0, .int .i64 0] := by
    have h0 := Blk.new ((((w).alloc (.cells #[.string ⟨nm.toArray⟩, .int .i64 ht, .int .i64 gap, .int .i64 sp, .slice L ls.length c] 24)).alloc (.cells #[.int .i64 W, .int .i64 H, .slice A (W * H) ac] 27)).alloc (.cells #[.int .i64 X, .int .i64 0, .int .i64 bw, .int .i64 H] 88)) 132 #[.string ⟨#[]⟩, .int .i64 0, .int .i64 0, .int .i64 0, .int .i64 0, .int .i64 0, .int .i64 0]
    simp only [World.size_alloc] at h0
    exact h0
  have lw4 : w4.heap.size = w.heap.size + 4 := by simp [w4]
  have HL := Lib.hid (hL.bl w4b)
  have hpz : pageErr (W : Int) (H : Int) (W * H) = 0 := page_ok (by omega) hW hH.1 hH.2 hWH
  have hce : cutErr (W : Int) (H : Int) (W * H) (X : Int) 0 (bw : Int) (H : Int) = 0 := by
    unfold cutErr
    rw [hpz]
    have hin : inPageB (X : Int) 0 (bw : Int) (H : Int) (W : Int) (H : Int) = true := decide_eq_true (by omega)
    rw [hin]
    rfl
  have hct := cut_any (W : Int) (H : Int) A (W * H) ac bs (X : Int) 0 (bw : Int) (H : Int) w4 (hA.bl w4b)
  rw [hce] at hct
  simp only [Int.toNat_natCast] at hct
  have Hct := Lib.hid hct; have HLs := Lib.hid hls
  have k2 := w42.all3
  have k3 := w43.all4
  clear hct hce hpz hA hL hls
  go_enter Tryd.func98, Tryd.ntmps98
  go_wp2_with fail
  refine Hct.out.mono ?_
  rintro e w6 ⟨ca, cb, cR, cm, cd, rfl, hres, hb6⟩
  clear_value w4
  obtain ⟨R', rc', e', hR, -⟩ := hres.1 rfl
  injection e' with e'
  simp only [Array.mk.injEq, List.cons.injEq, Value.int.injEq, Value.slice.injEq, true_and, and_true] at e'
  obtain ⟨rfl, rfl, rfl, rfl, rfl⟩ := e'
  obtain ⟨cs, hcs⟩ : ∃ cs, cs = grid bw H (cutF bs W X 0) := ⟨_, rfl⟩
  have hR0 : Reads w6 1 cR (bw * H) (cs.map .bool) := by rw [hcs]; exact hR
  obtain ⟨w7, hw7⟩ : ∃ x, x = w6.alloc (.cells #[.int .i64 bw, .int .i64 H, .slice cR (bw * H) cd] 27) := ⟨_, rfl⟩
  obtain ⟨q, hq⟩ : ∃ x, x = w6.heap.size := ⟨_, rfl⟩
  have bQ : Blk w7 q 27 #[.int .i64 bw, .int .i64 H, .slice cR (bw * H) cd] := by rw [hw7, hq]; exact Blk.new _ _ _
  have hb67 : Bl w6 w7 := by rw [hw7]; exact (Bl.refl _).alloc _
  have hb7 := hb6.trans hb67
  have HR := Lib.hid (hR0.bl hb67); have HCs := Lib.hid hcs
  clear hres hR hR0 hcs k2 k3 Hct
  go_upto_region 2 with fail
  rw [← hw7, ← hq]
  clear hw7 hq
  have k3 := (w43.bl hb7).all4
  obtain ⟨w8, hw8⟩ : ∃ x, x = w7.alloc (.cells #[.string ⟨#[]⟩, .int .i64 X, .int .i64 0, .int .i64 bw, .int .i64 H, .int .i64 (-1), .int .i64 (-1)] 132) := ⟨_, rfl⟩
  obtain ⟨o, ho⟩ : ∃ x, x = w7.heap.size := ⟨_, rfl⟩
  have bO : Blk w8 o 132 #[.string ⟨#[]⟩, .int .i64 X, .int .i64 0, .int .i64 bw, .int .i64 H, .int .i64 (-1), .int .i64 (-1)] := by rw [hw8, ho]; exact Blk.new _ _ _
  have hb78 : Bl w7 w8 := by rw [hw8]; exact (Bl.refl _).alloc _
  have ho7 : w7.heap.size ≤ o := by omega
  have HO := Lib.hid ho
  clear ho
  go_upto_region 3 with fail
  rw [← hw8, ← HO.out]
  clear hw8 k3
  have k1 := (w41.bl (hb7.trans hb78)).all5
  go_wp2_with fail
  go_loopw [27] (fun u wr => ∃ (i : Nat) (t : List UInt8) (d1 d2 : Int), i ≤ ls.length ∧ u = .int .i64 i ∧ Bl w7 wr ∧ bestOf cs bw H [] (ls.take i) = (t, d1, d2) ∧ Blk wr o 132 #[.string ⟨t.toArray⟩, .int .i64 X, .int .i64 0, .int .i64 bw, .int .i64 H, .int .i64 d1, .int .i64 d2]) (fun u _ => ls.length - (RowKit.intOf u).toNat)
  case atStart => exact ⟨0, [], -1, -1, Nat.zero_le _, rfl, hb78, rfl, bO⟩
  case round =>
    clear k1 bO hb78
    obtain ⟨i, t, d1, d2, hi, rfl, hbr, hbest, hbo⟩ := hrel
    have hinv := best_inv (cs := cs) (W := bw) (H := H) [] (by omega) hH.2 (ls := ls.take i) (fun l hl => by
      obtain ⟨h1, h2⟩ := HLs.out l (List.mem_of_mem_take hl)
      obtain ⟨W', H', e1, e2, -, -, h4, -⟩ := page_nat h1
      exact ⟨h2, by omega⟩)
    rw [hbest] at hinv
    have hinv2 : d1 = -1 ∧ d2 = -1 ∨ (0 ≤ d1 ∧ d1 ≤ 32000000 ∧ -1 ≤ d2 ∧ d2 ≤ 32000000) := hinv
    have HBe := Lib.hid hbest
    clear hbest hinv
    have k3 := (w43.bl (hb7.trans hbr)).all4
    have k9 := (bQ.bl hbr).all3
    by_cases hlt : i < ls.length
    · have hg : ls[i]? = some ls[i] := List.getElem?_eq_getElem hlt
      obtain ⟨l, hl⟩ : ∃ l, l = ls[i] := ⟨_, rfl⟩
      rw [← hl] at hg
      have hbs := bestOf_succ (cs := cs) (W := bw) (H := H) (t0 := []) hg
      rw [HBe.out] at hbs
      obtain ⟨hlz, hl64⟩ := HLs.out l (List.mem_of_getElem? hg)
      obtain ⟨adl, rfl, j1, j2, j3, j4⟩ := (HL.out.bl (hb7.trans hbr)).at_ hg
      have hlA := (HL.out.2 l (List.mem_of_getElem? hg)).1
      obtain ⟨lW, lH, elW, elH, elm, hlW, hlH, -⟩ := page_nat hlz
      rw [elm] at hlA j4
      rw [elW] at j2 hl64
      rw [elH] at j3
      have hstep : bestStep cs bw H (t, d1, d2) l = if (lW : Int) - (bw : Int) < -2 ∨ 2 < (lW : Int) - (bw : Int) then (t, d1, d2) else if d1 < 0 ∨ farL cs bw H l < d1 then (l.text, farL cs bw H l, d1) else if d2 < 0 ∨ farL cs bw H l < d2 then (t, d1, farL cs bw H l) else (t, d1, d2) := by
        unfold bestStep
        rw [elW]
      rw [hstep] at hbs
      have hfar : farL cs bw H l = farN (inkF cs bw H) (inkF l.bs lW lH) bw H lW lH 1 := by unfold farL; rw [elW, elH]; rfl
      have hfr := far_range (W := bw) (H := H) (W' := lW) (H' := lH) (r := 1) (cs := cs) (bs := l.bs) (by omega) hH.2 hlW hlH
      rw [← hfar] at hfr
      have hd := fun wx (hx : Bl w7 wx) => distance_any bw H lW lH 1 cR l.A cd l.c cs l.bs wx (HR.out.bl hx) (hlA.bl (hb7.trans hx)) (by omega) hH.2 hlW hlH (by omega)
      rw [← hfar] at hd
      obtain ⟨d, hdd⟩ : ∃ d, d = farL cs bw H l := ⟨_, rfl⟩
      rw [← hdd] at hbs hd hfr
      have hd' : ∀ wx, Bl w7 wx → Calls Tryd.prog 121 #[.agg #[.int .i64 bw, .int .i64 H, .slice cR (bw * H) cd], .agg #[.int .i64 lW, .int .i64 lH, .slice l.A (lW * lH) l.c], .int .i64 1] wx fun e w' => e = .returned (.int .i64 d) ∧ Bl wx w' := hd
      have Hd := Lib.hid hd'; have HBs := Lib.hid hbs
      clear hd hd' hbs hstep hfar hdd hlz hlA elW elH elm hg hl
      go_upto_region 6 with fail
      obtain ⟨w9, hw9⟩ : ∃ x, x = wr.alloc (.cells #[.string ⟨l.text.toArray⟩, .int .i64 lW, .int .i64 lH, .slice l.A (lW * lH) l.c] 93) := ⟨_, rfl⟩
      obtain ⟨p, hp⟩ : ∃ x, x = wr.heap.size := ⟨_, rfl⟩
      have b9 : Blk w9 p 93 #[.string ⟨l.text.toArray⟩, .int .i64 lW, .int .i64 lH, .slice l.A (lW * lH) l.c] := by rw [hw9, hp]; exact Blk.new _ _ _
      have hbr9 : Bl wr w9 := by rw [hw9]; exact (Bl.refl _).alloc _
      have hop : ¬ (o = p) := by have := hbo.lt; omega
      rw [← hw9, ← hp]
      clear hw9 hp j1 j2 j3 j4 k3 k9
      have hb9 := hbr.trans hbr9
      have k3 := (w43.bl (hb7.trans hb9)).all4
      have k9 := (bQ.bl hb9).all3
      have kp := b9.all4
      have hbo9 := hbo.bl hbr9
      by_cases c1 : (lW : Int) - (bw : Int) < -2
      · have HN := Lib.hid (HBs.out.trans (if_pos (.inl c1)))
        go_wp2_with fail
        exact ⟨⟨i + 1, t, d1, d2, hlt, by go_num, hb9, HN.out, hbo9⟩, by simp [RowKit.intOf] <;> omega⟩
      · by_cases c2 : 2 < (lW : Int) - (bw : Int)
        · have HN := Lib.hid (HBs.out.trans (if_pos (.inr c2)))
          go_wp2_with fail
          exact ⟨⟨i + 1, t, d1, d2, hlt, by go_num, hb9, HN.out, hbo9⟩, by simp [RowKit.intOf] <;> omega⟩
        · have HB2 := Lib.hid (HBs.out.trans (if_neg (by omega)))
          go_wp2_with fail
          refine (Hd.out _ hb9).mono ?_
          rintro e w10 ⟨rfl, hb910⟩
          have hb10 := hb9.trans hb910
          have hbo10 := hbo9.bl hb910
          have ko := hbo10.all7
          have kp := b9.bl hb910 |>.all4
          clear k3 k9
          have ho' : w7.heap.size ≤ o := ho7
          by_cases c3 : d1 < 0
          · have HN := Lib.hid (HB2.out.trans (if_pos (.inl c3)))
            have hd2 : d2 = d1 := by omega
            go_wp2_with fail
            exact ⟨⟨i + 1, l.text, d, d1, hlt, by go_num, (hb10.setCell ho' _).setCell ho' _, HN.out, by rw [← hd2]; exact (hbo10.set_ 0 _).set_ 5 _⟩, by simp [RowKit.intOf] <;> omega⟩
          · by_cases c4 : d < d1
            · have HN := Lib.hid (HB2.out.trans (if_pos (.inr c4)))
              go_wp2_with fail
              exact ⟨⟨i + 1, l.text, d, d1, hlt, by go_num, ((hb10.setCell ho' _).setCell ho' _).setCell ho' _, HN.out, ((hbo10.set_ 6 _).set_ 0 _).set_ 5 _⟩, by simp [RowKit.intOf] <;> omega⟩
            · have HB3 := Lib.hid (HB2.out.trans (if_neg (by omega)))
              by_cases c5 : d2 < 0
              · have HN := Lib.hid (HB3.out.trans (if_pos (.inl c5)))
                go_wp2_with fail
                exact ⟨⟨i + 1, t, d1, d, hlt, by go_num, hb10.setCell ho' _, HN.out, hbo10.set_ 6 _⟩, by simp [RowKit.intOf] <;> omega⟩
              · by_cases c6 : d < d2
                · have HN := Lib.hid (HB3.out.trans (if_pos (.inr c6)))
                  go_wp2_with fail
                  exact ⟨⟨i + 1, t, d1, d, hlt, by go_num, hb10.setCell ho' _, HN.out, hbo10.set_ 6 _⟩, by simp [RowKit.intOf] <;> omega⟩
                · have HN := Lib.hid (HB3.out.trans (if_neg (by omega)))
                  go_wp2_with fail
                  exact ⟨⟨i + 1, t, d1, d2, hlt, by go_num, hb10, HN.out, hbo10⟩, by simp [RowKit.intOf] <;> omega⟩
    · obtain rfl : i = ls.length := by omega
      have hbest := HBe.out
      rw [List.take_length] at hbest
      have ko := hbo.all7
      have k1 := (w41.bl (hb7.trans hbr)).all5
      have kz := (w44.bl (hb7.trans hbr)).all7
      have hoz : ¬ (o = w.heap.size + 1 + 1 + 1) := by have := hb7.le; omega
      have m1 := Int.mul_nonneg hm.1 (show 0 ≤ ht by omega)
      have m2 : most * ht ≤ 64000 := Int.le_trans (Int.mul_le_mul hm.2 hht.2 (by omega) (by omega)) (by decide)
      have m3 := Int.mul_nonneg m1 (show (0 : Int) ≤ (bw : Int) by omega)
      have m4 : most * ht * (bw : Int) ≤ 256000000 := Int.le_trans (Int.mul_le_mul m2 (show (bw : Int) ≤ 4000 by omega) (by omega) (by omega)) (by decide)
      have HBt := Lib.hid hbest
      clear hbest k9 HBe
      by_cases c1 : d1 < 0
      · have Hv := Lib.hid (show seenCells (bestOf cs bw H [] ls) X bw H most ht = [.string ⟨#[63]⟩, .int .i64 X, .int .i64 0, .int .i64 bw, .int .i64 H, .int .i64 (-1), .int .i64 (-1)] by
          rw [HBt.out]
          unfold seenCells farOff
          rw [if_pos (decide_eq_true (.inl c1))])
        go_wp2_with fail
        try simp only [Exit.then]
        refine bodyPost_ret (v := .agg #[.string ⟨#[63]⟩, .int .i64 X, .int .i64 0, .int .i64 bw, .int .i64 H, .int .i64 (-1), .int .i64 (-1)]) (by simp [results, Tryd.results98, go_sem, kz]) rfl ⟨by rw [← HCs.out, Hv.out], ?_⟩
        exact ((((((((w4b.trans (hb7.trans hbr)).setCell (by simp; omega) _).setCell (by simp; omega) _).setCell (by simp; omega) _).setCell (by simp; omega) _).setCell (by simp; omega) _).setCell (by simp; omega) _).setCell (by simp; omega) _)
      · by_cases c2 : most * ht * (bw : Int) < d1 * 1000
        · have Hv := Lib.hid (show seenCells (bestOf cs bw H [] ls) X bw H most ht = [.string ⟨#[63]⟩, .int .i64 X, .int .i64 0, .int .i64 bw, .int .i64 H, .int .i64 (-1), .int .i64 (-1)] by
            rw [HBt.out]
            unfold seenCells farOff
            rw [if_pos (decide_eq_true (.inr c2))])
          go_wp2_with fail
          try simp only [Exit.then]
          refine bodyPost_ret (v := .agg #[.string ⟨#[63]⟩, .int .i64 X, .int .i64 0, .int .i64 bw, .int .i64 H, .int .i64 (-1), .int .i64 (-1)]) (by simp [results, Tryd.results98, go_sem, kz]) rfl ⟨by rw [← HCs.out, Hv.out], ?_⟩
          exact ((((((((w4b.trans (hb7.trans hbr)).setCell (by simp; omega) _).setCell (by simp; omega) _).setCell (by simp; omega) _).setCell (by simp; omega) _).setCell (by simp; omega) _).setCell (by simp; omega) _).setCell (by simp; omega) _)
        · have Hv := Lib.hid (show seenCells (bestOf cs bw H [] ls) X bw H most ht = [.string ⟨t.toArray⟩, .int .i64 X, .int .i64 0, .int .i64 bw, .int .i64 H, .int .i64 d1, .int .i64 d2] by
            rw [HBt.out]
            unfold seenCells farOff
            rw [if_neg (by simp only [decide_eq_true_eq, not_or]; exact ⟨c1, c2⟩)])
          go_wp2_with fail
          try simp only [Exit.then]
          refine bodyPost_ret (v := .agg #[.string ⟨t.toArray⟩, .int .i64 X, .int .i64 0, .int .i64 bw, .int .i64 H, .int .i64 d1, .int .i64 d2]) (by simp [results, Tryd.results98, go_sem, kz]) rfl ⟨by rw [← HCs.out, Hv.out], ?_⟩
          exact ((((((((w4b.trans (hb7.trans hbr)).setCell (by simp; omega) _).setCell (by simp; omega) _).setCell (by simp; omega) _).setCell (by simp; omega) _).setCell (by simp; omega) _).setCell (by simp; omega) _).setCell (by simp; omega) _)

end Go.Proofs.YtjelhdpcaileiaaDoor


/-! glyph.Pieces. -/
namespace Go.Proofs.YtjelhdpcaileiaaDoor
open Go.RowKit

theorem info_box : (Tryd.prog.info? 88).map (fun i => (i.zero, i.size, i.bytes)) = some (some (.agg #[.int .i64 0, .int .i64 0, .int .i64 0, .int .i64 0]), 4, 32) := by kernel_rfl
theorem own_cell {w : World} {base : Nat} {e : TypeId} {size n g cap : Nat} {xs : List Value} (h : w.ownsRow base e size (.slice (some ⟨g, 0, none⟩) n cap) n xs) {j : Nat} {u : Value} (hj : xs[j]? = some u) : w.cell? ⟨g, j, none⟩ = some u := by
  obtain ⟨A, c, e2, hr⟩ := own_reads h
  injection e2 with e1 _ _
  subst e1
  have hlt : j < xs.length := (List.getElem?_eq_some_iff.1 hj).1
  have hn : 0 < n := by
    rcases Nat.eq_zero_or_pos n with h0 | h0
    · have := hr.1; rw [h0, Nat.zero_mul] at this; omega
    · exact h0
  obtain ⟨ad, e3, hc⟩ := hr.2 hn
  injection e3 with e3
  subst e3
  have := hc j u hj
  rwa [add_flat] at this
set_option maxRecDepth 100000 in
set_option maxHeartbeats 4000000 in
theorem glyphPieces_any (W H : Int) (A : Option Addr) (an ac : Nat) (bs : List Bool) (w : World) (hA : Reads w 1 A an (bs.map .bool)) :
    Calls Tryd.prog 49 #[.agg #[.int .i64 W, .int .i64 H, .slice A an ac]] w fun e w' => ∃ R m d, e = .returned (.tuple #[.slice R m d, .int .i64 (pageErr W H an)]) ∧ (pageErr W H an ≠ 0 → R = none ∧ m = 0) ∧
      (pageErr W H an = 0 → m = (piecesTo (colN bs W.toNat H.toNat) W.toNat).length ∧ Reads w' 4 R m (boxCells H.toNat (piecesTo (colN bs W.toNat H.toNat) W.toNat))) ∧ Bl w w' := by
  let w2 := (w).alloc (.cells #[.int .i64 W, .int .i64 H, .slice A an ac] 27)
  have w2b : Bl w w2 := (Bl.refl w).alloc _
  have w21 : Blk w2 (w.heap.size) 27 #[.int .i64 W, .int .i64 H, .slice A an ac] := by
    have h0 := Blk.new (w) 27 #[.int .i64 W, .int .i64 H, .slice A an ac]
    exact h0
  have lw2 : w2.heap.size = w.heap.size + 1 := by simp [w2]
  have Hcs := Lib.hid (columns_any W H A an ac bs w2 (hA.bl w2b))
  have k1 := w21.all3
  clear hA
  go_enter Tryd.func49, Tryd.ntmps49
  go_wp2_with fail
  refine Hcs.out.mono ?_
  rintro e w3 ⟨P, m, c, rfl, hT, hb3⟩
  clear_value w2
  clear Hcs k1
  by_cases hz : pageErr W H an = 0
  case neg =>
    have hq : (pageErr W H an == 0) = false := by simp [hz]
    have HZ := Lib.hid hz
    clear hz hT
    go_wp2_with fail
    refine bodyPost_ret (v := .tuple #[.slice none 0 0, .int .i64 (pageErr W H an)]) (by simp [results, Tryd.results49, go_sem]) rfl ⟨none, 0, 0, rfl, fun _ => ⟨rfl, rfl⟩, fun h => absurd h HZ.out, w2b.trans hb3⟩
  case pos =>
    have HZ := Lib.hid hz
    rw [hz]
    have hT1 := hT.1 hz
    obtain ⟨W, H, rfl, rfl, rfl, hW, hH, hWH⟩ := page_nat hz
    simp only [Int.toNat_natCast] at hT1
    obtain ⟨rfl, hP⟩ := hT1
    obtain ⟨f, hf⟩ : ∃ f, f = colN bs m H := ⟨_, rfl⟩
    have hfl : ∀ k, f k ≤ 4000 := fun k => by rw [hf]; have := colN_le bs m H k; omega
    have hcol : colI bs m H = fun k => ((f k : Nat) : Int) := by rw [hf]; rfl
    rw [hcol] at hP
    have k1 := (w21.bl hb3).all3
    have h0 : w3.ownsRow w3.heap.size 88 4 (.slice none 0 0) (piecesTo f 0).length (boxCells H (piecesTo f 0)) := World.ownsRow_nil _ _ _ _
    have HP := Lib.hid hP; have HF := Lib.hid hf; have HFl := Lib.hid hfl
    clear hz hP hf hcol hT hfl
    go_wp2_with fail
    go_loopw [20, 6] (fun u v wr => ∃ k : Nat, k ≤ m ∧ u = .int .i64 k ∧ Bl w3 wr ∧ wr.ownsRow w3.heap.size 88 4 v (piecesTo f k).length (boxCells H (piecesTo f k))) (fun u _ _ => m - (RowKit.intOf u).toNat)
    case atStart => exact ⟨0, Nat.zero_le _, rfl, Bl.refl _, h0⟩
    case round =>
      clear k1
      obtain ⟨k, hk, rfl, hbr, hown⟩ := hrel
      obtain ⟨R0, c0, rfl, -, -⟩ := own_new hown
      have k1 := (w21.bl (hb3.trans hbr)).all3
      have hpl := pieces_len f k
      have HOwn := Lib.hid hown
      by_cases hlt : k < m
      · obtain ⟨ad, u, rfl, hu, hc⟩ := (HP.out.bl hbr).at_ hlt
        have hu' : u = .int .i64 ((f k : Nat) : Int) := by
          rw [List.getElem?_map, tabL_get _ hlt] at hu
          exact (Option.some.inj hu).symm
        subst hu'
        have hnl := HFl.out k
        have hlast := pieces_last f k
        have hin := pieces_in f k
        have hst : piecesTo f (k + 1) = if f k = 0 then piecesTo f k else if ahead f k = true then wider (piecesTo f k) else piecesTo f k ++ [(k, 1)] := rfl
        obtain ⟨n, hn⟩ : ∃ n, n = f k := ⟨_, rfl⟩
        rw [← hn] at hnl hst hc
        have HSt := Lib.hid hst; have HLast := Lib.hid hlast; have HIn := Lib.hid hin
        clear hu hn hst hlast hin
        by_cases hz : n = 0
        · have hq : ((n : Int) == 0) = true := by rw [len0]; exact decide_eq_true hz
          have HN := Lib.hid (show piecesTo f (k + 1) = piecesTo f k by rw [HSt.out, if_pos hz])
          clear hz hown
          go_wp2_with fail
          exact ⟨⟨k + 1, hlt, by go_num, hbr, by rw [HN.out]; exact HOwn.out⟩, by simp [RowKit.intOf] <;> omega⟩
        · have hq : ((n : Int) == 0) = false := by rw [len0]; exact decide_eq_false hz
          cases ha : ahead f k
          · have HN := Lib.hid (show piecesTo f (k + 1) = piecesTo f k ++ [(k, 1)] by rw [HSt.out, if_neg hz, if_neg (by rw [ha]; decide)])
            rcases HLast.out.2 ha with he | ⟨l, p, he, hp⟩
            · have hlen : (piecesTo f k).length = 0 := by rw [he]; rfl
              have hlen0 := Lib.hid hlen
              rw [hlen] at hown ⊢
              have HOw := Lib.hid hown
              clear hown HOwn hz ha he hlen
              go_wp2_with fail
              refine wp_region_flow [(true, 0), (true, 1), (true, 2), (true, 3), (true, 4), (true, 5), (true, 6), (true, 7), (true, 8), (true, 9), (true, 10), (true, 11), (true, 12), (true, 13), (true, 14), (true, 15), (true, 16), (true, 17)] (fun _ => false) (by kernel_rfl) (by kernel_rfl) (by kernel_rfl) (by kernel_rfl) ?_
              iterate 1
                apply Flow.mv _ rfl
                · intro K' hK'
                  simp only [Act.put, Act.eval, List.setIfInBounds_toArray, List.set_cons_zero, List.set_cons_succ, arr_getD, List.getD_cons_zero, List.getD_cons_succ]
                  exact hK'
              iterate 1
                apply Flow.calm2 _ _ rfl rfl
                · intro w' hb' K' hK'
                  obtain ⟨hc', hf'⟩ := hb'.rule
                  go_simp
                  try go_ints
                  exact hK'
                · intro K' hK'
                  simp only [Act.put, List.setIfInBounds_toArray, List.set_cons_zero, List.set_cons_succ]
                  exact hK'
              iterate 1
                apply Flow.mv _ rfl
                · intro K' hK'
                  simp only [Act.put, Act.eval, List.setIfInBounds_toArray, List.set_cons_zero, List.set_cons_succ, arr_getD, List.getD_cons_zero, List.getD_cons_succ]
                  exact hK'
              first
                | (apply Flow.pass rfl (by rfl))
                | (apply Flow.calmG _ rfl (by rfl)
                   · intro w' hb'
                     obtain ⟨hc', hf'⟩ := hb'.rule
                     go_simp
                     all_goals (try rfl))
              simp only [Act.put, List.setIfInBounds_toArray, List.set_cons_zero, List.set_cons_succ]
              try go_ints
              first
                | (apply Flow.pass rfl (by rfl))
                | (apply Flow.calmG _ rfl (by rfl)
                   · intro w' hb'
                     obtain ⟨hc', hf'⟩ := hb'.rule
                     go_simp
                     all_goals (try rfl))
              simp only [Act.put, List.setIfInBounds_toArray, List.set_cons_zero, List.set_cons_succ]
              try go_ints
              first
                | (apply Flow.pass rfl (by rfl))
                | (apply Flow.calmG _ rfl (by rfl)
                   · intro w' hb'
                     obtain ⟨hc', hf'⟩ := hb'.rule
                     go_simp
                     all_goals (try rfl))
              simp only [Act.put, List.setIfInBounds_toArray, List.set_cons_zero, List.set_cons_succ]
              try go_ints
              first
                | (apply Flow.pass rfl (by rfl))
                | (apply Flow.calmG _ rfl (by rfl)
                   · intro w' hb'
                     obtain ⟨hc', hf'⟩ := hb'.rule
                     go_simp
                     all_goals (try rfl))
              simp only [Act.put, List.setIfInBounds_toArray, List.set_cons_zero, List.set_cons_succ]
              try go_ints
              first
                | (apply Flow.pass rfl (by rfl))
                | (apply Flow.calmG _ rfl (by rfl)
                   · intro w' hb'
                     obtain ⟨hc', hf'⟩ := hb'.rule
                     go_simp
                     all_goals (try rfl))
              simp only [Act.put, List.setIfInBounds_toArray, List.set_cons_zero, List.set_cons_succ]
              try go_ints
              first
                | (apply Flow.pass rfl (by rfl))
                | (apply Flow.calmG _ rfl (by rfl)
                   · intro w' hb'
                     obtain ⟨hc', hf'⟩ := hb'.rule
                     go_simp
                     all_goals (try rfl))
              simp only [Act.put, List.setIfInBounds_toArray, List.set_cons_zero, List.set_cons_succ]
              try go_ints
              first
                | (apply Flow.pass rfl (by rfl))
                | (apply Flow.calmG _ rfl (by rfl)
                   · intro w' hb'
                     obtain ⟨hc', hf'⟩ := hb'.rule
                     go_simp
                     all_goals (try rfl))
              simp only [Act.put, List.setIfInBounds_toArray, List.set_cons_zero, List.set_cons_succ]
              try go_ints
              first
                | (apply Flow.pass rfl (by rfl))
                | (apply Flow.calmG _ rfl (by rfl)
                   · intro w' hb'
                     obtain ⟨hc', hf'⟩ := hb'.rule
                     go_simp
                     all_goals (try rfl))
              simp only [Act.put, List.setIfInBounds_toArray, List.set_cons_zero, List.set_cons_succ]
              try go_ints
              first
                | (apply Flow.pass rfl (by rfl))
                | (apply Flow.calmG _ rfl (by rfl)
                   · intro w' hb'
                     obtain ⟨hc', hf'⟩ := hb'.rule
                     go_simp
                     all_goals (try rfl))
              simp only [Act.put, List.setIfInBounds_toArray, List.set_cons_zero, List.set_cons_succ]
              try go_ints
              first
                | (apply Flow.pass rfl (by rfl))
                | (apply Flow.calmG _ rfl (by rfl)
                   · intro w' hb'
                     obtain ⟨hc', hf'⟩ := hb'.rule
                     go_simp
                     all_goals (try rfl))
              simp only [Act.put, List.setIfInBounds_toArray, List.set_cons_zero, List.set_cons_succ]
              try go_ints
              first
                | (apply Flow.pass rfl (by rfl))
                | (apply Flow.calmG _ rfl (by rfl)
                   · intro w' hb'
                     obtain ⟨hc', hf'⟩ := hb'.rule
                     go_simp
                     all_goals (try rfl))
              simp only [Act.put, List.setIfInBounds_toArray, List.set_cons_zero, List.set_cons_succ]
              try go_ints
              first
                | (apply Flow.pass rfl (by rfl))
                | (apply Flow.calmG _ rfl (by rfl)
                   · intro w' hb'
                     obtain ⟨hc', hf'⟩ := hb'.rule
                     go_simp
                     all_goals (try rfl))
              simp only [Act.put, List.setIfInBounds_toArray, List.set_cons_zero, List.set_cons_succ]
              try go_ints
              first
                | (apply Flow.pass rfl (by rfl))
                | (apply Flow.calmG _ rfl (by rfl)
                   · intro w' hb'
                     obtain ⟨hc', hf'⟩ := hb'.rule
                     go_simp
                     all_goals (try rfl))
              simp only [Act.put, List.setIfInBounds_toArray, List.set_cons_zero, List.set_cons_succ]
              try go_ints
              iterate 1
                apply Flow.calm2 _ _ rfl rfl
                · intro w' hb' K' hK'
                  obtain ⟨hc', hf'⟩ := hb'.rule
                  go_simp
                  try go_ints
                  exact hK'
                · intro K' hK'
                  simp only [Act.put, List.setIfInBounds_toArray, List.set_cons_zero, List.set_cons_succ]
                  exact hK'
              iterate 1
                apply Flow.asg _ rfl
                · intro K' hK'
                  simp only [Act.put, Act.eval, List.setIfInBounds_toArray, List.set_cons_zero, List.set_cons_succ, arr_getD, List.getD_cons_zero, List.getD_cons_succ]
                  exact hK'
              refine Flow.done ?_
              go_wp2_with (at_builtin; refine wpList_append_bl (w1 := w3) rfl (.tmp 28) (.tmp 33) 83 rfl 88 (.agg #[.int .i64 0, .int .i64 0, .int .i64 0, .int .i64 0]) 4 32 Tryd.underlying83 info_box rfl (by omega) w3.heap.size _ 0 (boxCells H (piecesTo f k)) rfl (hbr.drew.alloc _) ?hB ?hBr ((own_bl HOw.out (Bl.refl _).drew).alloc _) (some ⟨wr.heap.size, 0, none⟩) 1 1 [.int .i64 k, .int .i64 0, .int .i64 1, .int .i64 H] rfl ((Blk.new _ _ _).reads 1 4 rfl) ?h1 ?c1 ?c2 ?_)
              case hB => exact Nat.le_refl _
              case hBr => have := hbr.le; first | omega | (simp; omega)
              case h1 => simp [Value.oneCell']
              case c1 => unfold maxLen; omega
              case c2 => omega
              intro v' w8 hown8 hb8 hg8
              have hcat : boxCells H (piecesTo f k) ++ [.int .i64 k, .int .i64 0, .int .i64 1, .int .i64 H] = boxCells H (piecesTo f (k + 1)) := by rw [HN.out, boxCells_append]; rfl
              rw [hcat] at hown8
              have hlen2 : (piecesTo f (k + 1)).length = 0 + 1 := by rw [HN.out, List.length_append, hlen0.out]; rfl
              have HO8 := Lib.hid hown8; have HL2 := Lib.hid hlen2
              clear hown8 hcat hlen2
              go_wp2_with fail
              exact ⟨⟨k + 1, hlt, by go_num, hb8, by rw [HL2.out]; exact HO8.out⟩, by simp [RowKit.intOf] <;> omega⟩
            · obtain ⟨N, hN⟩ : ∃ N, N = l.length := ⟨_, rfl⟩
              have hlen : (piecesTo f k).length = N + 1 := by rw [he, hN, List.length_append]; rfl
              have hlen0 := Lib.hid hlen
              rw [hlen] at hown ⊢
              obtain ⟨g, cap, e, hgB, -⟩ := own_some hown (by omega)
              injection e with e1 _ e3
              subst e1
              subst e3
              have hgl : (boxCells H (piecesTo f k))[N * 4 + 0]? = some (.int .i64 p.1) := by rw [boxCells_at (i := N) (p := p) (by rw [he, hN]; simp) 0 (by omega)]; rfl
              have hgw : (boxCells H (piecesTo f k))[N * 4 + 2]? = some (.int .i64 p.2) := by rw [boxCells_at (i := N) (p := p) (by rw [he, hN]; simp) 2 (by omega)]; rfl
              rw [Nat.add_zero] at hgl
              have hc1 := own_cell hown hgl
              have hc2 := own_cell hown hgw
              have hpi := HIn.out p (by rw [he]; simp)
              have q3 : ((p.1 : Int) + (p.2 : Int) == (k : Int)) = false := by simp; omega
              obtain ⟨px, hpx⟩ : ∃ x, x = p.1 := ⟨_, rfl⟩
              obtain ⟨pw, hpw⟩ : ∃ x, x = p.2 := ⟨_, rfl⟩
              rw [← hpx, ← hpw] at q3 hpi
              rw [← hpx] at hc1
              rw [← hpw] at hc2
              have hNN : (N : Int) < (N : Int) + 1 := by omega
              have HOw := Lib.hid hown
              rw [hlen] at hpl
              clear hown HOwn hz ha he hgl hgw hp hpx hpw hN hlen
              go_wp2_with fail
              refine wp_region_flow [(true, 0), (true, 1), (true, 2), (true, 3), (true, 4), (true, 5), (true, 6), (true, 7), (true, 8), (true, 9), (true, 10), (true, 11), (true, 12), (true, 13), (true, 14), (true, 15), (true, 16), (true, 17)] (fun _ => false) (by kernel_rfl) (by kernel_rfl) (by kernel_rfl) (by kernel_rfl) ?_
              iterate 1
                apply Flow.mv _ rfl
                · intro K' hK'
                  simp only [Act.put, Act.eval, List.setIfInBounds_toArray, List.set_cons_zero, List.set_cons_succ, arr_getD, List.getD_cons_zero, List.getD_cons_succ]
                  exact hK'
              iterate 1
                apply Flow.calm2 _ _ rfl rfl
                · intro w' hb' K' hK'
                  obtain ⟨hc', hf'⟩ := hb'.rule
                  go_simp
                  try go_ints
                  exact hK'
                · intro K' hK'
                  simp only [Act.put, List.setIfInBounds_toArray, List.set_cons_zero, List.set_cons_succ]
                  exact hK'
              iterate 1
                apply Flow.mv _ rfl
                · intro K' hK'
                  simp only [Act.put, Act.eval, List.setIfInBounds_toArray, List.set_cons_zero, List.set_cons_succ, arr_getD, List.getD_cons_zero, List.getD_cons_succ]
                  exact hK'
              first
                | (apply Flow.pass rfl (by rfl))
                | (apply Flow.calmG _ rfl (by rfl)
                   · intro w' hb'
                     obtain ⟨hc', hf'⟩ := hb'.rule
                     go_simp
                     all_goals (try rfl))
              simp only [Act.put, List.setIfInBounds_toArray, List.set_cons_zero, List.set_cons_succ]
              try go_ints
              first
                | (apply Flow.pass rfl (by rfl))
                | (apply Flow.calmG _ rfl (by rfl)
                   · intro w' hb'
                     obtain ⟨hc', hf'⟩ := hb'.rule
                     go_simp
                     all_goals (try rfl))
              simp only [Act.put, List.setIfInBounds_toArray, List.set_cons_zero, List.set_cons_succ]
              try go_ints
              first
                | (apply Flow.pass rfl (by rfl))
                | (apply Flow.calmG _ rfl (by rfl)
                   · intro w' hb'
                     obtain ⟨hc', hf'⟩ := hb'.rule
                     go_simp
                     all_goals (try rfl))
              simp only [Act.put, List.setIfInBounds_toArray, List.set_cons_zero, List.set_cons_succ]
              try go_ints
              first
                | (apply Flow.pass rfl (by rfl))
                | (apply Flow.calmG _ rfl (by rfl)
                   · intro w' hb'
                     obtain ⟨hc', hf'⟩ := hb'.rule
                     go_simp
                     all_goals (try rfl))
              simp only [Act.put, List.setIfInBounds_toArray, List.set_cons_zero, List.set_cons_succ]
              try go_ints
              first
                | (apply Flow.pass rfl (by rfl))
                | (apply Flow.calmG _ rfl (by rfl)
                   · intro w' hb'
                     obtain ⟨hc', hf'⟩ := hb'.rule
                     go_simp
                     all_goals (try rfl))
              simp only [Act.put, List.setIfInBounds_toArray, List.set_cons_zero, List.set_cons_succ]
              try go_ints
              first
                | (apply Flow.pass rfl (by rfl))
                | (apply Flow.calmG _ rfl (by rfl)
                   · intro w' hb'
                     obtain ⟨hc', hf'⟩ := hb'.rule
                     go_simp
                     all_goals (try rfl))
              simp only [Act.put, List.setIfInBounds_toArray, List.set_cons_zero, List.set_cons_succ]
              try go_ints
              first
                | (apply Flow.pass rfl (by rfl))
                | (apply Flow.calmG _ rfl (by rfl)
                   · intro w' hb'
                     obtain ⟨hc', hf'⟩ := hb'.rule
                     go_simp
                     all_goals (try rfl))
              simp only [Act.put, List.setIfInBounds_toArray, List.set_cons_zero, List.set_cons_succ]
              try go_ints
              first
                | (apply Flow.pass rfl (by rfl))
                | (apply Flow.calmG _ rfl (by rfl)
                   · intro w' hb'
                     obtain ⟨hc', hf'⟩ := hb'.rule
                     go_simp
                     all_goals (try rfl))
              simp only [Act.put, List.setIfInBounds_toArray, List.set_cons_zero, List.set_cons_succ]
              try go_ints
              first
                | (apply Flow.pass rfl (by rfl))
                | (apply Flow.calmG _ rfl (by rfl)
                   · intro w' hb'
                     obtain ⟨hc', hf'⟩ := hb'.rule
                     go_simp
                     all_goals (try rfl))
              simp only [Act.put, List.setIfInBounds_toArray, List.set_cons_zero, List.set_cons_succ]
              try go_ints
              first
                | (apply Flow.pass rfl (by rfl))
                | (apply Flow.calmG _ rfl (by rfl)
                   · intro w' hb'
                     obtain ⟨hc', hf'⟩ := hb'.rule
                     go_simp
                     all_goals (try rfl))
              simp only [Act.put, List.setIfInBounds_toArray, List.set_cons_zero, List.set_cons_succ]
              try go_ints
              first
                | (apply Flow.pass rfl (by rfl))
                | (apply Flow.calmG _ rfl (by rfl)
                   · intro w' hb'
                     obtain ⟨hc', hf'⟩ := hb'.rule
                     go_simp
                     all_goals (try rfl))
              simp only [Act.put, List.setIfInBounds_toArray, List.set_cons_zero, List.set_cons_succ]
              try go_ints
              first
                | (apply Flow.pass rfl (by rfl))
                | (apply Flow.calmG _ rfl (by rfl)
                   · intro w' hb'
                     obtain ⟨hc', hf'⟩ := hb'.rule
                     go_simp
                     all_goals (try rfl))
              simp only [Act.put, List.setIfInBounds_toArray, List.set_cons_zero, List.set_cons_succ]
              try go_ints
              first
                | (apply Flow.pass rfl (by rfl))
                | (apply Flow.calmG _ rfl (by rfl)
                   · intro w' hb'
                     obtain ⟨hc', hf'⟩ := hb'.rule
                     go_simp
                     all_goals (try rfl))
              simp only [Act.put, List.setIfInBounds_toArray, List.set_cons_zero, List.set_cons_succ]
              try go_ints
              iterate 1
                apply Flow.calm2 _ _ rfl rfl
                · intro w' hb' K' hK'
                  obtain ⟨hc', hf'⟩ := hb'.rule
                  go_simp
                  try go_ints
                  exact hK'
                · intro K' hK'
                  simp only [Act.put, List.setIfInBounds_toArray, List.set_cons_zero, List.set_cons_succ]
                  exact hK'
              iterate 1
                apply Flow.asg _ rfl
                · intro K' hK'
                  simp only [Act.put, Act.eval, List.setIfInBounds_toArray, List.set_cons_zero, List.set_cons_succ, arr_getD, List.getD_cons_zero, List.getD_cons_succ]
                  exact hK'
              refine Flow.done ?_
              go_wp2_with (at_builtin; refine wpList_append_bl (w1 := w3) rfl (.tmp 28) (.tmp 33) 83 rfl 88 (.agg #[.int .i64 0, .int .i64 0, .int .i64 0, .int .i64 0]) 4 32 Tryd.underlying83 info_box rfl (by omega) w3.heap.size _ (N + 1) (boxCells H (piecesTo f k)) rfl (hbr.drew.alloc _) ?hB ?hBr ((own_bl HOw.out (Bl.refl _).drew).alloc _) (some ⟨wr.heap.size, 0, none⟩) 1 1 [.int .i64 k, .int .i64 0, .int .i64 1, .int .i64 H] rfl ((Blk.new _ _ _).reads 1 4 rfl) ?h1 ?c1 ?c2 ?_)
              case hB => exact Nat.le_refl _
              case hBr => have := hbr.le; first | omega | (simp; omega)
              case h1 => simp [Value.oneCell']
              case c1 => unfold maxLen; omega
              case c2 => omega
              intro v' w8 hown8 hb8 hg8
              have hcat : boxCells H (piecesTo f k) ++ [.int .i64 k, .int .i64 0, .int .i64 1, .int .i64 H] = boxCells H (piecesTo f (k + 1)) := by rw [HN.out, boxCells_append]; rfl
              rw [hcat] at hown8
              have hlen2 : (piecesTo f (k + 1)).length = (N + 1) + 1 := by rw [HN.out, List.length_append, hlen0.out]; rfl
              have HO8 := Lib.hid hown8; have HL2 := Lib.hid hlen2
              clear hown8 hcat hlen2
              go_wp2_with fail
              exact ⟨⟨k + 1, hlt, by go_num, hb8, by rw [HL2.out]; exact HO8.out⟩, by simp [RowKit.intOf] <;> omega⟩
          · have HN := Lib.hid (show piecesTo f (k + 1) = wider (piecesTo f k) by rw [HSt.out, if_neg hz, if_pos ha])
            obtain ⟨l, p, he, hp⟩ := HLast.out.1 ha
            obtain ⟨N, hN⟩ : ∃ N, N = l.length := ⟨_, rfl⟩
            have hlen : (piecesTo f k).length = N + 1 := by rw [he, hN, List.length_append]; rfl
            rw [hlen] at hown ⊢
            obtain ⟨g, cap, e, hgB, -⟩ := own_some hown (by omega)
            injection e with e1 _ e3
            subst e1
            subst e3
            have hgl : (boxCells H (piecesTo f k))[N * 4 + 0]? = some (.int .i64 p.1) := by rw [boxCells_at (i := N) (p := p) (by rw [he, hN]; simp) 0 (by omega)]; rfl
            have hgw : (boxCells H (piecesTo f k))[N * 4 + 2]? = some (.int .i64 p.2) := by rw [boxCells_at (i := N) (p := p) (by rw [he, hN]; simp) 2 (by omega)]; rfl
            rw [Nat.add_zero] at hgl
            have hc1 := own_cell hown hgl
            have hc2 := own_cell hown hgw
            have hfz := (own_blk hown).2
            have hpi := HIn.out p (by rw [he]; simp)
            have q3 : ((p.1 : Int) + (p.2 : Int) == (k : Int)) = true := by simp; omega
            have hwd : (boxCells H (piecesTo f k)).set (N * 4 + 2) (.int .i64 ((p.2 : Int) + 1)) = boxCells H (piecesTo f (k + 1)) := by rw [HN.out, he, hN]; exact boxCells_wider H l p
            have hlen2 : (piecesTo f (k + 1)).length = N + 1 := by rw [HN.out, wider_length, hlen]
            have hset := ownsRow_set hown (N * 4 + 2) (.int .i64 ((p.2 : Int) + 1))
            rw [hwd] at hset
            obtain ⟨px, hpx⟩ : ∃ x, x = p.1 := ⟨_, rfl⟩
            obtain ⟨pw, hpw⟩ : ∃ x, x = p.2 := ⟨_, rfl⟩
            rw [← hpx, ← hpw] at q3 hpi
            rw [← hpx] at hc1
            rw [← hpw] at hc2 hset
            have HSet := Lib.hid hset; have HL2 := Lib.hid hlen2
            have hgw3 : w3.heap.size ≤ g := hgB
            have hNN : (N : Int) < (N : Int) + 1 := by omega
            rw [hlen] at hpl
            clear hown HOwn hz ha he hgl hgw hp hpx hpw hN hset hwd hlen2 hlen
            go_wp2_with fail
            refine wp_region_flow [(true, 0), (true, 1), (true, 2), (true, 3), (true, 4), (true, 5), (true, 6), (true, 7), (true, 8), (true, 9), (true, 10), (true, 11), (true, 12), (true, 13), (true, 14), (true, 15), (true, 16), (true, 17)] (fun _ => false) (by kernel_rfl) (by kernel_rfl) (by kernel_rfl) (by kernel_rfl) ?_
            iterate 1
              apply Flow.mv _ rfl
              · intro K' hK'
                simp only [Act.put, Act.eval, List.setIfInBounds_toArray, List.set_cons_zero, List.set_cons_succ, arr_getD, List.getD_cons_zero, List.getD_cons_succ]
                exact hK'
            iterate 1
              apply Flow.calm2 _ _ rfl rfl
              · intro w' hb' K' hK'
                obtain ⟨hc', hf'⟩ := hb'.rule
                go_simp
                try go_ints
                exact hK'
              · intro K' hK'
                simp only [Act.put, List.setIfInBounds_toArray, List.set_cons_zero, List.set_cons_succ]
                exact hK'
            iterate 1
              apply Flow.mv _ rfl
              · intro K' hK'
                simp only [Act.put, Act.eval, List.setIfInBounds_toArray, List.set_cons_zero, List.set_cons_succ, arr_getD, List.getD_cons_zero, List.getD_cons_succ]
                exact hK'
            first
              | (apply Flow.pass rfl (by rfl))
              | (apply Flow.calmG _ rfl (by rfl)
                 · intro w' hb'
                   obtain ⟨hc', hf'⟩ := hb'.rule
                   go_simp
                   all_goals (try rfl))
            simp only [Act.put, List.setIfInBounds_toArray, List.set_cons_zero, List.set_cons_succ]
            try go_ints
            first
              | (apply Flow.pass rfl (by rfl))
              | (apply Flow.calmG _ rfl (by rfl)
                 · intro w' hb'
                   obtain ⟨hc', hf'⟩ := hb'.rule
                   go_simp
                   all_goals (try rfl))
            simp only [Act.put, List.setIfInBounds_toArray, List.set_cons_zero, List.set_cons_succ]
            try go_ints
            first
              | (apply Flow.pass rfl (by rfl))
              | (apply Flow.calmG _ rfl (by rfl)
                 · intro w' hb'
                   obtain ⟨hc', hf'⟩ := hb'.rule
                   go_simp
                   all_goals (try rfl))
            simp only [Act.put, List.setIfInBounds_toArray, List.set_cons_zero, List.set_cons_succ]
            try go_ints
            first
              | (apply Flow.pass rfl (by rfl))
              | (apply Flow.calmG _ rfl (by rfl)
                 · intro w' hb'
                   obtain ⟨hc', hf'⟩ := hb'.rule
                   go_simp
                   all_goals (try rfl))
            simp only [Act.put, List.setIfInBounds_toArray, List.set_cons_zero, List.set_cons_succ]
            try go_ints
            first
              | (apply Flow.pass rfl (by rfl))
              | (apply Flow.calmG _ rfl (by rfl)
                 · intro w' hb'
                   obtain ⟨hc', hf'⟩ := hb'.rule
                   go_simp
                   all_goals (try rfl))
            simp only [Act.put, List.setIfInBounds_toArray, List.set_cons_zero, List.set_cons_succ]
            try go_ints
            first
              | (apply Flow.pass rfl (by rfl))
              | (apply Flow.calmG _ rfl (by rfl)
                 · intro w' hb'
                   obtain ⟨hc', hf'⟩ := hb'.rule
                   go_simp
                   all_goals (try rfl))
            simp only [Act.put, List.setIfInBounds_toArray, List.set_cons_zero, List.set_cons_succ]
            try go_ints
            first
              | (apply Flow.pass rfl (by rfl))
              | (apply Flow.calmG _ rfl (by rfl)
                 · intro w' hb'
                   obtain ⟨hc', hf'⟩ := hb'.rule
                   go_simp
                   all_goals (try rfl))
            simp only [Act.put, List.setIfInBounds_toArray, List.set_cons_zero, List.set_cons_succ]
            try go_ints
            first
              | (apply Flow.pass rfl (by rfl))
              | (apply Flow.calmG _ rfl (by rfl)
                 · intro w' hb'
                   obtain ⟨hc', hf'⟩ := hb'.rule
                   go_simp
                   all_goals (try rfl))
            simp only [Act.put, List.setIfInBounds_toArray, List.set_cons_zero, List.set_cons_succ]
            try go_ints
            first
              | (apply Flow.pass rfl (by rfl))
              | (apply Flow.calmG _ rfl (by rfl)
                 · intro w' hb'
                   obtain ⟨hc', hf'⟩ := hb'.rule
                   go_simp
                   all_goals (try rfl))
            simp only [Act.put, List.setIfInBounds_toArray, List.set_cons_zero, List.set_cons_succ]
            try go_ints
            first
              | (apply Flow.pass rfl (by rfl))
              | (apply Flow.calmG _ rfl (by rfl)
                 · intro w' hb'
                   obtain ⟨hc', hf'⟩ := hb'.rule
                   go_simp
                   all_goals (try rfl))
            simp only [Act.put, List.setIfInBounds_toArray, List.set_cons_zero, List.set_cons_succ]
            try go_ints
            first
              | (apply Flow.pass rfl (by rfl))
              | (apply Flow.calmG _ rfl (by rfl)
                 · intro w' hb'
                   obtain ⟨hc', hf'⟩ := hb'.rule
                   go_simp
                   all_goals (try rfl))
            simp only [Act.put, List.setIfInBounds_toArray, List.set_cons_zero, List.set_cons_succ]
            try go_ints
            first
              | (apply Flow.pass rfl (by rfl))
              | (apply Flow.calmG _ rfl (by rfl)
                 · intro w' hb'
                   obtain ⟨hc', hf'⟩ := hb'.rule
                   go_simp
                   all_goals (try rfl))
            simp only [Act.put, List.setIfInBounds_toArray, List.set_cons_zero, List.set_cons_succ]
            try go_ints
            first
              | (apply Flow.pass rfl (by rfl))
              | (apply Flow.calmG _ rfl (by rfl)
                 · intro w' hb'
                   obtain ⟨hc', hf'⟩ := hb'.rule
                   go_simp
                   all_goals (try rfl))
            simp only [Act.put, List.setIfInBounds_toArray, List.set_cons_zero, List.set_cons_succ]
            try go_ints
            iterate 1
              apply Flow.calm2 _ _ rfl rfl
              · intro w' hb' K' hK'
                obtain ⟨hc', hf'⟩ := hb'.rule
                go_simp
                try go_ints
                exact hK'
              · intro K' hK'
                simp only [Act.put, List.setIfInBounds_toArray, List.set_cons_zero, List.set_cons_succ]
                exact hK'
            iterate 1
              apply Flow.asg _ rfl
              · intro K' hK'
                simp only [Act.put, Act.eval, List.setIfInBounds_toArray, List.set_cons_zero, List.set_cons_succ, arr_getD, List.getD_cons_zero, List.getD_cons_succ]
                exact hK'
            refine Flow.done ?_
            go_wp2_with fail
            exact ⟨⟨k + 1, hlt, by go_num, (hbr.drew).setCell hgw3 _, by rw [HL2.out]; exact own_bl HSet.out (Bl.refl _).drew⟩, by simp [RowKit.intOf] <;> omega⟩
      · obtain rfl : k = m := by omega
        obtain ⟨R, d, e, hR⟩ := own_reads hown
        injection e with e1 _ e3
        subst e1
        subst e3
        have HR := Lib.hid hR
        clear hown hR
        go_wp2_with fail
        refine bodyPost_ret (v := .tuple #[.slice R0 (piecesTo f k).length c0, .int .i64 0]) (by simp [results, Tryd.results49, go_sem]) rfl ⟨R0, (piecesTo f k).length, ⟨c0, by rw [HZ.out]⟩, fun h => absurd HZ.out h, ?_, (w2b.trans hb3).trans hbr⟩
        intro _
        first
          | (simp only [Int.toNat_natCast]; rw [← HF.out]; exact ⟨rfl, HR.out⟩)
          | (rw [← HF.out]; exact ⟨rfl, HR.out⟩)

end Go.Proofs.YtjelhdpcaileiaaDoor


/-! bedref2.PiecesOf. -/
namespace Go.Proofs.YtjelhdpcaileiaaDoor
open Go.RowKit

theorem own_less {w : World} {base base' : Nat} {e : TypeId} {size : Nat} {v : Value} {n : Nat} {xs : List Value} (h : w.ownsRow base e size v n xs) (hb : base' ≤ base) : w.ownsRow base' e size v n xs := by
  refine ⟨h.1, ?_⟩
  rcases h.2 with h2 | ⟨g, cap, cur, hv, hg, r⟩
  · exact .inl h2
  · exact .inr ⟨g, cap, cur, hv, Nat.le_trans hb hg, r⟩
set_option maxRecDepth 100000 in
set_option maxHeartbeats 2000000 in
theorem columnsOfO_any (W H : Nat) (A : Option Addr) (ac : Nat) (bs : List Bool) (w : World) (hA : Reads w 1 A (W * H) (bs.map .bool)) (hW : W ≤ 4000) (hH : H ≤ 4000) :
    Calls Tryd.prog 89 #[.agg #[.int .i64 W, .int .i64 H, .slice A (W * H) ac]] w fun e w' => ∃ v, e = .returned v ∧ w'.ownsRow w.heap.size 3 1 v W ((tabL W (colI bs W H)).map (.int .i64)) ∧ Bl w w' := by
  let w2 := (w).alloc (.cells #[.int .i64 W, .int .i64 H, .slice A (W * H) ac] 27)
  have w2b : Bl w w2 := (Bl.refl w).alloc _
  have w21 : Blk w2 (w.heap.size) 27 #[.int .i64 W, .int .i64 H, .slice A (W * H) ac] := by
    have h0 := Blk.new (w) 27 #[.int .i64 W, .int .i64 H, .slice A (W * H) ac]
    exact h0
  have k1 := w21.all3
  have lw2 : w2.heap.size = w.heap.size + 1 := by simp [w2]
  have HA := Lib.hid (hA.bl w2b)
  have ho0 : w2.ownsRow (w.heap.size + 1) 3 1 (.slice none 0 0) 0 ((tabL 0 (colI bs W H)).map (.int .i64)) := World.ownsRow_nil _ _ _ _
  have Ho0 := Lib.hid ho0
  clear hA ho0
  go_enter Tryd.func89, Tryd.ntmps89
  go_wp2_with fail
  go_loopw [3, 7] (fun v u wr => ∃ k : Nat, k ≤ W ∧ u = .int .i64 k ∧ Bl w2 wr ∧ wr.ownsRow (w.heap.size + 1) 3 1 v k ((tabL k (colI bs W H)).map (.int .i64))) (fun _ u _ => W - (intOf u).toNat)
  case atStart => exact ⟨0, Nat.zero_le _, rfl, Bl.refl _, Ho0.out⟩
  case round =>
    clear k1
    obtain ⟨k, hk, rfl, hbr, hown⟩ := hrel
    have k1 := (w21.bl hbr).all3
    by_cases hlt : k < W
    · have hcall := inkOf_any W H k 0 1 H A ac bs wr (HA.out.bl hbr) hW hH (by omega) (by omega)
      rw [ink_col] at hcall
      have htl : (tabL (k + 1) (colI bs W H)).map (Value.int .i64) = (tabL k (colI bs W H)).map (Value.int .i64) ++ [Value.int .i64 ((colI bs W H) k)] := by simp [tabL, List.range_succ]
      have Hcall := Lib.hid hcall; have Htl := Lib.hid htl
      clear hcall htl
      go_wp2_with fail
      refine Hcall.out.mono ?_
      rintro e w1 ⟨rfl, hb1⟩
      have hown1 := own_bl hown hb1
      have hbr1 := hbr.trans hb1
      clear hown
      go_wp2_with (at_builtin; refine wpList_append_one rfl (.tmp 10) (.tmp 17) 62 rfl 3 (.int .i64 0) 8 Tryd.underlying62 info_int rfl (w.heap.size + 1) _ _ _ rfl _ rfl rfl hbr1 (by omega) (by have := hbr1.le; omega) hown1 (by omega) (by unfold maxLen; omega) ?_; intro v' w' hown' hb' _)
      exact ⟨⟨k + 1, hlt, by go_num, hb', by rw [Htl.out]; exact hown'⟩, by simp [intOf]; omega⟩
    · obtain rfl : k = W := by omega
      have HO := Lib.hid hown
      clear hown
      go_wp2_with fail
      go_ret
      exact ⟨_, rfl, own_less HO.out (by omega), w2b.trans hbr⟩

def lastV (f : Nat → Nat) : Nat → Nat
  | 0 => 0
  | k + 1 => f k
theorem ahead_last (f : Nat → Nat) (k : Nat) : ahead f k = decide (0 < lastV f k) := by
  cases k <;> rfl
/-- Nothing behind the end. -/
def upto (f : Nat → Nat) (W : Nat) (k : Nat) : Nat := if k < W then f k else 0
theorem pieces_congr {f g : Nat → Nat} : ∀ {k : Nat}, (∀ j, j < k → f j = g j) → piecesTo f k = piecesTo g k
  | 0, _ => rfl
  | k + 1, h => by
    have ih := pieces_congr (k := k) fun j hj => h j (by omega)
    have ha : ahead f k = ahead g k := by
      cases k with
      | zero => rfl
      | succ k => show decide (0 < f k) = decide (0 < g k); rw [h k (by omega)]
    show (if f k = 0 then piecesTo f k else if ahead f k = true then wider (piecesTo f k) else piecesTo f k ++ [(k, 1)]) = (if g k = 0 then piecesTo g k else if ahead g k = true then wider (piecesTo g k) else piecesTo g k ++ [(k, 1)])
    rw [h k (by omega), ih, ha]
theorem pieces_upto (f : Nat → Nat) (W : Nat) : piecesTo (upto f W) (W + 1) = piecesTo f W := by
  show (if upto f W W = 0 then piecesTo (upto f W) W else _) = _
  rw [if_pos (by unfold upto; rw [if_neg (by omega)])]
  exact pieces_congr fun j hj => by unfold upto; rw [if_pos hj]
theorem cols_at {bs : List Bool} {W H : Nat} {k : Nat} (hk : k < W + 1) : ((tabL W (colI bs W H)).map (Value.int .i64) ++ [.int .i64 0])[k]? = some (.int .i64 ((upto (colN bs W H) W k : Nat) : Int)) := by
  have hl : ((tabL W (colI bs W H)).map (Value.int .i64)).length = W := by rw [List.length_map, tabL_len]
  unfold upto
  by_cases h : k < W
  · rw [List.getElem?_append_left (by omega), List.getElem?_map, tabL_get _ h, if_pos h]
    rfl
  · rw [List.getElem?_append_right (by omega), hl, if_neg h, show k - W = 0 by omega]
    rfl
theorem box_new (H k : Nat) (l : List Piece) : (boxCells H l ++ [Value.int .i64 k, Value.int .i64 0, Value.int .i64 0, Value.int .i64 H]).set (l.length * 4 + 2) (Value.int .i64 1) = boxCells H (l ++ [(k, 1)]) := by
  rw [boxCells_append, List.set_append_right _ _ (by rw [boxCells_len]; omega), boxCells_len, show l.length * 4 + 2 - l.length * 4 = 2 by omega]
  rfl

set_option maxRecDepth 100000 in
set_option maxHeartbeats 4000000 in
theorem piecesOf_any (W H : Nat) (A : Option Addr) (ac : Nat) (bs : List Bool) (w : World) (hA : Reads w 1 A (W * H) (bs.map .bool)) (hW : W ≤ 4000) (hH : H ≤ 4000) :
    Calls Tryd.prog 51 #[.agg #[.int .i64 W, .int .i64 H, .slice A (W * H) ac]] w fun e w' => ∃ v, e = .returned v ∧ w'.ownsRow w.heap.size 88 4 v (piecesTo (colN bs W H) W).length (boxCells H (piecesTo (colN bs W H) W)) ∧ Bl w w' := by
  let w2 := (w).alloc (.cells #[.int .i64 W, .int .i64 H, .slice A (W * H) ac] 27)
  have w2b : Bl w w2 := (Bl.refl w).alloc _
  have w21 : Blk w2 (w.heap.size) 27 #[.int .i64 W, .int .i64 H, .slice A (W * H) ac] := by
    have h0 := Blk.new (w) 27 #[.int .i64 W, .int .i64 H, .slice A (W * H) ac]
    exact h0
  have lw2 : w2.heap.size = w.heap.size + 1 := by simp [w2]
  have Hcs := Lib.hid (columnsOfO_any W H A ac bs w2 (hA.bl w2b) hW hH)
  have k1 := w21.all3
  clear hA
  go_enter Tryd.func51, Tryd.ntmps51
  go_wp2_with fail
  refine Hcs.out.mono ?_
  rintro e w3 ⟨vc, rfl, hown, hb3⟩
  clear_value w2
  have HO3 := Lib.hid hown
  have hl3 := hb3.le
  clear hown k1 Hcs
  go_wp2_with (at_builtin; refine wpList_append_one (w1 := w2) rfl (.tmp 8) (.tmp 9) 62 rfl 3 (.int .i64 0) 8 Tryd.underlying62 info_int rfl w2.heap.size vc W ((tabL W (colI bs W H)).map (.int .i64)) rfl (.int .i64 0) rfl rfl hb3 (Nat.le_refl _) hl3 HO3.out (by omega) (by unfold maxLen; omega) ?_)
  intro v' w4 hown4 hb4 hg4
  obtain ⟨g4, cap4, rfl, hg4B, -⟩ := own_some hown4 (by omega)
  obtain ⟨f, hf⟩ : ∃ f, f = upto (colN bs W H) W := ⟨_, rfl⟩
  have hcell : ∀ k, k < W + 1 → ∀ wx, Bl w4 wx → wx.cell? ⟨g4, k, none⟩ = some (.int .i64 ((f k : Nat) : Int)) := fun k hk wx hx => hx.at (own_cell hown4 (by rw [hf]; exact cols_at hk))
  have hfl : ∀ k, f k ≤ 4000 := fun k => by rw [hf]; unfold upto; split <;> first | (have := colN_le bs W H k; omega) | omega
  have hfin : piecesTo f (W + 1) = piecesTo (colN bs W H) W := by rw [hf, pieces_upto]
  have Hcell := Lib.hid hcell; have HFl := Lib.hid hfl; have HFin := Lib.hid hfin
  have h0 : w4.ownsRow w4.heap.size 88 4 (.slice none 0 0) (piecesTo f 0).length (boxCells H (piecesTo f 0)) := World.ownsRow_nil _ _ _ _
  clear hown4 hf hcell hfl hfin HO3 hg4
  go_wp2_with fail
  go_loopw [12, 3, 4] (fun u v l wr => ∃ k : Nat, k ≤ W + 1 ∧ u = .int .i64 k ∧ l = .int .i64 (lastV f k : Nat) ∧ Bl w4 wr ∧ wr.ownsRow w4.heap.size 88 4 v (piecesTo f k).length (boxCells H (piecesTo f k))) (fun u _ _ _ => W + 1 - (RowKit.intOf u).toNat)
  case atStart => exact ⟨0, Nat.zero_le _, rfl, rfl, Bl.refl _, h0⟩
  case round =>
    obtain ⟨k, hk, rfl, rfl, hbr, hown⟩ := hrel
    obtain ⟨R0, c0, rfl, -, -⟩ := own_new hown
    have k1 := (w21.bl ((hb4).trans hbr)).all3
    have hpl := pieces_len f k
    by_cases hlt : k < W + 1
    · have hc := Hcell.out k hlt wr hbr
      have hnl := HFl.out k
      have hlast := pieces_last f k
      have hin := pieces_in f k
      have hal := ahead_last f k
      have hst : piecesTo f (k + 1) = if f k = 0 then piecesTo f k else if ahead f k = true then wider (piecesTo f k) else piecesTo f k ++ [(k, 1)] := rfl
      have hlv : lastV f (k + 1) = f k := rfl
      have hll : lastV f k ≤ 4000 := by cases k with | zero => exact Nat.zero_le _ | succ j => exact HFl.out j
      obtain ⟨n, hn⟩ : ∃ n, n = f k := ⟨_, rfl⟩
      obtain ⟨lv, hlv0⟩ : ∃ x, x = lastV f k := ⟨_, rfl⟩
      obtain ⟨N, hN⟩ : ∃ N, N = (piecesTo f k).length := ⟨_, rfl⟩
      have hlen0 := Lib.hid hN.symm
      rw [← hN] at hpl hown ⊢
      rw [← hn] at hnl hst hc hlv
      rw [← hlv0] at hal hll ⊢
      have HSt := Lib.hid hst; have HLast := Lib.hid hlast; have HIn := Lib.hid hin; have HLv := Lib.hid hlv; have HAl := Lib.hid hal
      have HOw := Lib.hid hown
      clear hn hst hlast hin hlv hlv0 hal hN hown
      by_cases hz : n = 0
      · have hq : ¬ (0 : Int) < (n : Int) := by omega
        have hq2 : ¬ 0 < n := by omega
        have HN := Lib.hid (show piecesTo f (k + 1) = piecesTo f k by rw [HSt.out, if_pos hz])
        clear hz
        go_wp2_with fail
        exact ⟨⟨k + 1, hlt, by go_num, by rw [HLv.out], hbr, by rw [HN.out, hlen0.out]; exact HOw.out⟩, by simp [RowKit.intOf] <;> omega⟩
      · have hq : (0 : Int) < (n : Int) := by omega
        have hq2 : 0 < n := by omega
        by_cases hz2 : lv = 0
        · have hq3 : ((lv : Int) == 0) = true := by rw [len0]; exact decide_eq_true hz2
          have HN := Lib.hid (show piecesTo f (k + 1) = piecesTo f k ++ [(k, 1)] by rw [HSt.out, if_neg hz, if_neg (by rw [HAl.out, hz2]; decide)])
          clear hz hz2
          go_wp2_with (at_builtin; refine wpList_append_bl (w1 := w4) rfl (.tmp 23) (.tmp 28) 83 rfl 88 (.agg #[.int .i64 0, .int .i64 0, .int .i64 0, .int .i64 0]) 4 32 Tryd.underlying83 info_box rfl (by omega) w4.heap.size _ N (boxCells H (piecesTo f k)) rfl (hbr.alloc _) (Nat.le_refl _) ?hBr (HOw.out.alloc _) (some ⟨wr.heap.size, 0, none⟩) 1 1 [.int .i64 k, .int .i64 0, .int .i64 0, .int .i64 H] rfl ((Blk.new _ _ _).reads 1 4 rfl) ?h1 ?c1 ?c2 ?_)
          case hBr => have := hbr.le; first | omega | (simp; omega)
          case h1 => simp [Value.oneCell']
          case c1 => unfold maxLen; omega
          case c2 => omega
          intro v' w8 hown8 hb8 hg8
          obtain ⟨g8, cap8, rfl, hg8B, -⟩ := own_some hown8 (by omega)
          have hc2 : w8.cell? ⟨g8, N * 4 + 2, none⟩ = some (.int .i64 0) := own_cell hown8 (by rw [List.getElem?_append_right (by rw [boxCells_len, hlen0.out]; omega), boxCells_len, hlen0.out, show N * 4 + 2 - N * 4 = 2 by omega]; rfl)
          have hfz := (own_blk hown8).2
          have hset := ownsRow_set hown8 (N * 4 + 2) (.int .i64 1)
          rw [show N * 4 + 2 = (piecesTo f k).length * 4 + 2 by rw [hlen0.out], box_new, ← HN.out, hlen0.out] at hset
          have hlen2 : (piecesTo f (k + 1)).length = N + 1 := by rw [HN.out, List.length_append, hlen0.out]; rfl
          have HSet := Lib.hid hset; have HL2 := Lib.hid hlen2
          have hNN : (N : Int) < (N : Int) + 1 := by omega
          clear hown8 hset hlen2
          go_wp2_with fail
          exact ⟨⟨k + 1, hlt, by go_num, by rw [HLv.out], hb8.setCell hg8B _, by rw [HL2.out]; exact HSet.out⟩, by simp [RowKit.intOf] <;> omega⟩
        · have hq3 : ((lv : Int) == 0) = false := by rw [len0]; exact decide_eq_false hz2
          have ha : ahead f k = true := by rw [HAl.out]; exact decide_eq_true (by omega)
          have HN := Lib.hid (show piecesTo f (k + 1) = wider (piecesTo f k) by rw [HSt.out, if_neg hz, if_pos ha])
          obtain ⟨l, p, he, hp⟩ := HLast.out.1 ha
          obtain ⟨M, hM⟩ : ∃ M, M = l.length := ⟨_, rfl⟩
          have hNM : N = M + 1 := by rw [← hlen0.out, he, hM, List.length_append]; rfl
          subst hNM
          have hown := HOw.out
          obtain ⟨g, cap, e, hgB, -⟩ := own_some hown (by omega)
          injection e with e1 _ e3
          subst e1
          subst e3
          have hgw : (boxCells H (piecesTo f k))[M * 4 + 2]? = some (.int .i64 p.2) := by rw [boxCells_at (i := M) (p := p) (by rw [he, hM]; simp) 2 (by omega)]; rfl
          have hc2 := own_cell hown hgw
          have hfz := (own_blk hown).2
          have hpi := HIn.out p (by rw [he]; simp)
          have hwd : (boxCells H (piecesTo f k)).set (M * 4 + 2) (.int .i64 ((p.2 : Int) + 1)) = boxCells H (piecesTo f (k + 1)) := by rw [HN.out, he, hM]; exact boxCells_wider H l p
          have hlen2 : (piecesTo f (k + 1)).length = M + 1 := by rw [HN.out, wider_length, hlen0.out]
          have hset := ownsRow_set hown (M * 4 + 2) (.int .i64 ((p.2 : Int) + 1))
          rw [hwd] at hset
          obtain ⟨pw, hpw⟩ : ∃ x, x = p.2 := ⟨_, rfl⟩
          rw [← hpw] at hpi hc2 hset
          have HSet := Lib.hid hset; have HL2 := Lib.hid hlen2
          have hNN : (M : Int) < (M : Int) + 1 := by omega
          clear hown hz hz2 ha he hgw hp hpw hM hset hwd hlen2
          go_wp2_with fail
          exact ⟨⟨k + 1, hlt, by go_num, by rw [HLv.out], hbr.setCell hgB _, by rw [HL2.out]; exact HSet.out⟩, by simp [RowKit.intOf] <;> omega⟩
    · obtain rfl : k = W + 1 := by omega
      have HO := Lib.hid hown
      clear hown
      go_wp2_with fail
      go_ret
      refine ⟨_, rfl, ?_, w2b.trans (hb4.trans hbr)⟩
      have ho := HO.out
      rw [HFin.out] at ho ⊢
      exact own_less ho (by have := hb4.le; omega)

end Go.Proofs.YtjelhdpcaileiaaDoor
