/- glyph.see. -/
import Derived.Test.YtfngcokfigbhgaaDoorMClaimReads5
import Derived.Test.YtfngcokfigbhgaaDoorMClaimReads7
import Derived.Test.YtfngcokfigbhgaaDoorMClaimReads4
import Derived.Test.YtfngcokfigbhgaaDoorMClaimReads3

namespace Go.Proofs.YtfngcokfigbhgaaDoor
open Go.RowKit

theorem Blk.all5 {w : World} {g : Nat} {t : TypeId} {x y z u v : Value} (h : Blk w g t #[x, y, z, u, v]) : w.cell? ⟨g, 0, none⟩ = some x ∧ w.cell? ⟨g, 1, none⟩ = some y ∧ w.cell? ⟨g, 2, none⟩ = some z ∧ w.cell? ⟨g, 3, none⟩ = some u ∧ w.cell? ⟨g, 4, none⟩ = some v ∧ ∀ i, w.frozen? ⟨g, i, none⟩ = false := ⟨h.cell 0, h.cell 1, h.cell 2, h.cell 3, h.cell 4, h.frozen⟩
theorem first5_any (e1 e2 e3 e4 e5 : Int) (g : Nat) (w : World) (h : Blk w g 29 #[.int .i64 e1, .int .i64 e2, .int .i64 e3, .int .i64 e4, .int .i64 e5]) :
    Calls Tryd.prog 13 #[.slice (some ⟨g, 0, none⟩) 5 5] w fun e w' => e = .returned (.int .i64 (firstNZ [e1, e2, e3, e4, e5])) ∧ w = w' :=
  first_any (some ⟨g, 0, none⟩) 5 [e1, e2, e3, e4, e5] w (h.reads 5 1 rfl) (by simp)
theorem firstNZ_append (a b : List Int) : firstNZ (a ++ b) = if firstNZ a = 0 then firstNZ b else firstNZ a := by
  induction a with
  | nil => simp [firstNZ]
  | cons x a ih =>
    show (if x = 0 then firstNZ (a ++ b) else x) = _
    by_cases h : x = 0
    · rw [if_pos h, ih]
      show _ = if (if x = 0 then firstNZ a else x) = 0 then _ else (if x = 0 then firstNZ a else x)
      rw [if_pos h]
    · rw [if_neg h]
      show _ = if (if x = 0 then firstNZ a else x) = 0 then _ else (if x = 0 then firstNZ a else x)
      rw [if_neg h, if_neg h]
/-- What is asked of a letter first .. -/
def ltrE1 (prev : List (List UInt8)) (l : Ltr) : Int := firstNZ [whenI (!textB l.text) 2, whenI (decide (l.text ∈ prev)) 6, pageErr l.W l.H l.m]
/-- .. and then. -/
def ltrE2 (ht : Int) (l : Ltr) : Int := firstNZ [whenI (l.H != ht) 11, whenI (decide (64 < l.W)) 4, whenI (bareB l.bs l.W.toNat l.H.toNat) 2]
theorem ltrErr_parts (ht : Int) (prev : List (List UInt8)) (l : Ltr) : ltrErr ht prev l = if ltrE1 prev l = 0 then ltrE2 ht l else ltrE1 prev l :=
  firstNZ_append [whenI (!textB l.text) 2, whenI (decide (l.text ∈ prev)) 6, pageErr l.W l.H l.m] _
theorem ltrE1_zero {prev : List (List UInt8)} {l : Ltr} (h : ltrE1 prev l = 0) : pageErr l.W l.H l.m = 0 := by
  unfold ltrE1 at h
  have h2 := firstNZ_append [whenI (!textB l.text) 2, whenI (decide (l.text ∈ prev)) 6] [pageErr l.W l.H l.m]
  rw [show [whenI (!textB l.text) 2, whenI (decide (l.text ∈ prev)) 6] ++ [pageErr l.W l.H l.m] = [whenI (!textB l.text) 2, whenI (decide (l.text ∈ prev)) 6, pageErr l.W l.H l.m] from rfl, h] at h2
  split at h2
  · simp only [firstNZ] at h2
    by_cases h3 : pageErr l.W l.H l.m = 0
    · exact h3
    · rw [if_neg h3] at h2; exact h2.symm
  · rename_i h3; exact absurd h2.symm h3

set_option maxRecDepth 100000 in
set_option maxHeartbeats 1000000 in
theorem fontError1_any (b : Nat) (l y : Ltr) (w : World) (hb : Blk w b 74 #[.string ⟨l.text.toArray⟩, .int .i64 l.W, .int .i64 l.H, .slice l.A l.m l.c]) :
    Calls Tryd.prog 90 #[y.val, .pointer (some ⟨b, 0, none⟩)] w fun e w' => e = .returned (.bool (decide (y.text = l.text))) ∧ Bl w w' := by
  have k1 := hb.all4
  have hlt := hb.lt
  unfold Ltr.val
  by_cases he : y.text = l.text
  · rw [decide_eq_true he]
    go_enter Tryd.func90, Tryd.ntmps90
    go_wp2_with fail
    go_ret
    exact ⟨by simp [he], (Bl.refl _).alloc _⟩
  · rw [decide_eq_false he]
    go_enter Tryd.func90, Tryd.ntmps90
    go_wp2_with fail
    go_ret
    exact ⟨by simp [he], (Bl.refl _).alloc _⟩

end Go.Proofs.YtfngcokfigbhgaaDoor


/-! glyph.see. -/
namespace Go.Proofs.YtfngcokfigbhgaaDoor
open Go.RowKit

theorem Blk.all7 {w : World} {g : Nat} {t : TypeId} {a b c d e f h : Value} (k : Blk w g t #[a, b, c, d, e, f, h]) : w.cell? ⟨g, 0, none⟩ = some a ∧ w.cell? ⟨g, 1, none⟩ = some b ∧ w.cell? ⟨g, 2, none⟩ = some c ∧ w.cell? ⟨g, 3, none⟩ = some d ∧ w.cell? ⟨g, 4, none⟩ = some e ∧ w.cell? ⟨g, 5, none⟩ = some f ∧ w.cell? ⟨g, 6, none⟩ = some h ∧ ∀ i, w.frozen? ⟨g, i, none⟩ = false :=
  ⟨k.cell 0, k.cell 1, k.cell 2, k.cell 3, k.cell 4, k.cell 5, k.cell 6, k.frozen⟩
set_option maxRecDepth 100000 in
set_option maxHeartbeats 8000000 in
theorem see_any (nm : List UInt8) (ht gap sp : Int) (L : Option Addr) (c : Nat) (ls : List Ltr) (W H X bw : Nat) (A : Option Addr) (ac : Nat) (bs : List Bool) (most : Int) (w : World) (hL : LtrsAt w L ls) (hA : Reads w 1 A (W * H) (bs.map .bool))
    (hW : W ≤ 4000) (hH : 1 ≤ H ∧ H ≤ 4000) (hWH : W * H ≤ 1048576) (hX : X + bw ≤ W) (hbw : 1 ≤ bw) (hls : ∀ l ∈ ls, pageErr l.W l.H l.m = 0 ∧ l.W ≤ 64) (hn : ls.length ≤ 200) (hm : 0 ≤ most ∧ most ≤ 1000) (hht : 1 ≤ ht ∧ ht ≤ 64) :
    Calls Tryd.prog 86 #[.agg #[.string ⟨nm.toArray⟩, .int .i64 ht, .int .i64 gap, .int .i64 sp, .slice L ls.length c], .agg #[.int .i64 W, .int .i64 H, .slice A (W * H) ac], .agg #[.int .i64 X, .int .i64 0, .int .i64 bw, .int .i64 H], .int .i64 most] w fun e w' =>
      e = .returned (.agg (seenCells (bestOf (grid bw H (cutF bs W X 0)) bw H [] ls) X bw H most ht).toArray) ∧ Bl w w' := by
  let w4 := ((((w).alloc (.cells #[.string ⟨nm.toArray⟩, .int .i64 ht, .int .i64 gap, .int .i64 sp, .slice L ls.length c] 24)).alloc (.cells #[.int .i64 W, .int .i64 H, .slice A (W * H) ac] 27)).alloc (.cells #[.int .i64 X, .int .i64 0, .int .i64 bw, .int .i64 H] 41)).alloc (.cells #[.string ⟨#[]⟩, .int .i64 0, .int .i64 0, .int .i64 0, .int .i64 0, .int .i64 0, .int .i64 0] 43)
  have w4b : Bl w w4 := ((((Bl.refl w).alloc _).alloc _).alloc _).alloc _
  have w41 : Blk w4 (w.heap.size) 24 #[.string ⟨nm.toArray⟩, .int .i64 ht, .int .i64 gap, .int .i64 sp, .slice L ls.length c] := by
    have h0 := Blk.new (w) 24 #[.string ⟨nm.toArray⟩, .int .i64 ht, .int .i64 gap, .int .i64 sp, .slice L ls.length c]
    exact (((h0.alloc _).alloc _).alloc _)
  have w42 : Blk w4 (w.heap.size + 1) 27 #[.int .i64 W, .int .i64 H, .slice A (W * H) ac] := by
    have h0 := Blk.new ((w).alloc (.cells #[.string ⟨nm.toArray⟩, .int .i64 ht, .int .i64 gap, .int .i64 sp, .slice L ls.length c] 24)) 27 #[.int .i64 W, .int .i64 H, .slice A (W * H) ac]
    simp only [World.size_alloc] at h0
    exact ((h0.alloc _).alloc _)
  have w43 : Blk w4 (w.heap.size + 1 + 1) 41 #[.int .i64 X, .int .i64 0, .int .i64 bw, .int .i64 H] := by
    have h0 := Blk.new (((w).alloc (.cells #[.string ⟨nm.toArray⟩, .int .i64 ht, .int .i64 gap, .int .i64 sp, .slice L ls.length c] 24)).alloc (.cells #[.int .i64 W, .int .i64 H, .slice A (W * H) ac] 27)) 41 #[.int .i64 X, .int .i64 0, .int .i64 bw, .int .i64 H]
    simp only [World.size_alloc] at h0
    exact (h0.alloc _)
  have w44 : Blk w4 (w.heap.size + 1 + 1 + 1) 43 #[.string ⟨#[]⟩, .int .i64 0, .int .i64 0, .int .i64 0, .int .i64 0, .int .i64 0, .int .i64 0] := by
    have h0 := Blk.new ((((w).alloc (.cells #[.string ⟨nm.toArray⟩, .int .i64 ht, .int .i64 gap, .int .i64 sp, .slice L ls.length c] 24)).alloc (.cells #[.int .i64 W, .int .i64 H, .slice A (W * H) ac] 27)).alloc (.cells #[.int .i64 X, .int .i64 0, .int .i64 bw, .int .i64 H] 41)) 43 #[.string ⟨#[]⟩, .int .i64 0, .int .i64 0, .int .i64 0, .int .i64 0, .int .i64 0, .int .i64 0]
    simp only [World.size_alloc] at h0
    exact h0
  have lw4 : w4.heap.size = w.heap.size + 4 := by simp [w4]
  have HL := Lib.hid (hL.bl w4b)
  have hpz : pageErr (W : Int) (H : Int) (W * H) = 0 := page_ok (by omega) hW hH.1 hH.2 hWH
  have hce : cutErr (W : Int) (H : Int) (W * H) (X : Int) 0 (bw : Int) (H : Int) = 0 := by
    unfold cutErr
    rw [hpz]
    have hin : inPageB (X : Int) 0 (bw : Int) (H : Int) (W : Int) (H : Int) = true := decide_eq_true (by omega)
    rw [hin]
    rfl
  have hct := cut_any (W : Int) (H : Int) A (W * H) ac bs (X : Int) 0 (bw : Int) (H : Int) w4 (hA.bl w4b)
  rw [hce] at hct
  simp only [Int.toNat_natCast] at hct
  have Hct := Lib.hid hct; have HLs := Lib.hid hls
  have k2 := w42.all3
  have k3 := w43.all4
  clear hct hce hpz hA hL hls
  go_enter Tryd.func86, Tryd.ntmps86
  go_wp2_with fail
  refine Hct.out.mono ?_
  rintro e w6 ⟨ca, cb, cR, cm, cd, rfl, hres, hb6⟩
  clear_value w4
  obtain ⟨R', rc', e', hR, -⟩ := hres.1 rfl
  injection e' with e'
  simp only [Array.mk.injEq, List.cons.injEq, Value.int.injEq, Value.slice.injEq, true_and, and_true] at e'
  obtain ⟨rfl, rfl, rfl, rfl, rfl⟩ := e'
  obtain ⟨cs, hcs⟩ : ∃ cs, cs = grid bw H (cutF bs W X 0) := ⟨_, rfl⟩
  have hR0 : Reads w6 1 cR (bw * H) (cs.map .bool) := by rw [hcs]; exact hR
  obtain ⟨w7, hw7⟩ : ∃ x, x = w6.alloc (.cells #[.int .i64 bw, .int .i64 H, .slice cR (bw * H) cd] 27) := ⟨_, rfl⟩
  obtain ⟨q, hq⟩ : ∃ x, x = w6.heap.size := ⟨_, rfl⟩
  have bQ : Blk w7 q 27 #[.int .i64 bw, .int .i64 H, .slice cR (bw * H) cd] := by rw [hw7, hq]; exact Blk.new _ _ _
  have hb67 : Bl w6 w7 := by rw [hw7]; exact (Bl.refl _).alloc _
  have hb7 := hb6.trans hb67
  have HR := Lib.hid (hR0.bl hb67); have HCs := Lib.hid hcs
  clear hres hR hR0 hcs k2 k3 Hct
  go_upto_region 2 with fail
  rw [← hw7, ← hq]
  clear hw7 hq
  have k3 := (w43.bl hb7).all4
  obtain ⟨w8, hw8⟩ : ∃ x, x = w7.alloc (.cells #[.string ⟨#[]⟩, .int .i64 X, .int .i64 0, .int .i64 bw, .int .i64 H, .int .i64 (-1), .int .i64 (-1)] 43) := ⟨_, rfl⟩
  obtain ⟨o, ho⟩ : ∃ x, x = w7.heap.size := ⟨_, rfl⟩
  have bO : Blk w8 o 43 #[.string ⟨#[]⟩, .int .i64 X, .int .i64 0, .int .i64 bw, .int .i64 H, .int .i64 (-1), .int .i64 (-1)] := by rw [hw8, ho]; exact Blk.new _ _ _
  have hb78 : Bl w7 w8 := by rw [hw8]; exact (Bl.refl _).alloc _
  have ho7 : w7.heap.size ≤ o := by omega
  have HO := Lib.hid ho
  clear ho
  go_upto_region 3 with fail
  rw [← hw8, ← HO.out]
  clear hw8 k3
  have k1 := (w41.bl (hb7.trans hb78)).all5
  go_wp2_with fail
  go_loopw [27] (fun u wr => ∃ (i : Nat) (t : List UInt8) (d1 d2 : Int), i ≤ ls.length ∧ u = .int .i64 i ∧ Bl w7 wr ∧ bestOf cs bw H [] (ls.take i) = (t, d1, d2) ∧ Blk wr o 43 #[.string ⟨t.toArray⟩, .int .i64 X, .int .i64 0, .int .i64 bw, .int .i64 H, .int .i64 d1, .int .i64 d2]) (fun u _ => ls.length - (RowKit.intOf u).toNat)
  case atStart => exact ⟨0, [], -1, -1, Nat.zero_le _, rfl, hb78, rfl, bO⟩
  case round =>
    clear k1 bO hb78
    obtain ⟨i, t, d1, d2, hi, rfl, hbr, hbest, hbo⟩ := hrel
    have hinv := best_inv (cs := cs) (W := bw) (H := H) [] (by omega) hH.2 (ls := ls.take i) (fun l hl => by
      obtain ⟨h1, h2⟩ := HLs.out l (List.mem_of_mem_take hl)
      obtain ⟨W', H', e1, e2, -, -, h4, -⟩ := page_nat h1
      exact ⟨h2, by omega⟩)
    rw [hbest] at hinv
    have hinv2 : d1 = -1 ∧ d2 = -1 ∨ (0 ≤ d1 ∧ d1 ≤ 32000000 ∧ -1 ≤ d2 ∧ d2 ≤ 32000000) := hinv
    have HBe := Lib.hid hbest
    clear hbest hinv
    have k3 := (w43.bl (hb7.trans hbr)).all4
    have k9 := (bQ.bl hbr).all3
    by_cases hlt : i < ls.length
    · have hg : ls[i]? = some ls[i] := List.getElem?_eq_getElem hlt
      obtain ⟨l, hl⟩ : ∃ l, l = ls[i] := ⟨_, rfl⟩
      rw [← hl] at hg
      have hbs := bestOf_succ (cs := cs) (W := bw) (H := H) (t0 := []) hg
      rw [HBe.out] at hbs
      obtain ⟨hlz, hl64⟩ := HLs.out l (List.mem_of_getElem? hg)
      obtain ⟨adl, rfl, j1, j2, j3, j4⟩ := (HL.out.bl (hb7.trans hbr)).at_ hg
      have hlA := (HL.out.2 l (List.mem_of_getElem? hg)).1
      obtain ⟨lW, lH, elW, elH, elm, hlW, hlH, -⟩ := page_nat hlz
      rw [elm] at hlA j4
      rw [elW] at j2 hl64
      rw [elH] at j3
      have hstep : bestStep cs bw H (t, d1, d2) l = if (lW : Int) - (bw : Int) < -2 ∨ 2 < (lW : Int) - (bw : Int) then (t, d1, d2) else if d1 < 0 ∨ farL cs bw H l < d1 then (l.text, farL cs bw H l, d1) else if d2 < 0 ∨ farL cs bw H l < d2 then (t, d1, farL cs bw H l) else (t, d1, d2) := by
        unfold bestStep
        rw [elW]
      rw [hstep] at hbs
      have hfar : farL cs bw H l = farN (inkF cs bw H) (inkF l.bs lW lH) bw H lW lH 1 := by unfold farL; rw [elW, elH]; rfl
      have hfr := far_range (W := bw) (H := H) (W' := lW) (H' := lH) (r := 1) (cs := cs) (bs := l.bs) (by omega) hH.2 hlW hlH
      rw [← hfar] at hfr
      have hd := fun wx (hx : Bl w7 wx) => distance_any bw H lW lH 1 cR l.A cd l.c cs l.bs wx (HR.out.bl hx) (hlA.bl (hb7.trans hx)) (by omega) hH.2 hlW hlH (by omega)
      rw [← hfar] at hd
      obtain ⟨d, hdd⟩ : ∃ d, d = farL cs bw H l := ⟨_, rfl⟩
      rw [← hdd] at hbs hd hfr
      have hd' : ∀ wx, Bl w7 wx → Calls Tryd.prog 124 #[.agg #[.int .i64 bw, .int .i64 H, .slice cR (bw * H) cd], .agg #[.int .i64 lW, .int .i64 lH, .slice l.A (lW * lH) l.c], .int .i64 1] wx fun e w' => e = .returned (.int .i64 d) ∧ Bl wx w' := hd
      have Hd := Lib.hid hd'; have HBs := Lib.hid hbs
      clear hd hd' hbs hstep hfar hdd hlz hlA elW elH elm hg hl
      go_upto_region 6 with fail
      obtain ⟨w9, hw9⟩ : ∃ x, x = wr.alloc (.cells #[.string ⟨l.text.toArray⟩, .int .i64 lW, .int .i64 lH, .slice l.A (lW * lH) l.c] 74) := ⟨_, rfl⟩
      obtain ⟨p, hp⟩ : ∃ x, x = wr.heap.size := ⟨_, rfl⟩
      have b9 : Blk w9 p 74 #[.string ⟨l.text.toArray⟩, .int .i64 lW, .int .i64 lH, .slice l.A (lW * lH) l.c] := by rw [hw9, hp]; exact Blk.new _ _ _
      have hbr9 : Bl wr w9 := by rw [hw9]; exact (Bl.refl _).alloc _
      have hop : ¬ (o = p) := by have := hbo.lt; omega
      rw [← hw9, ← hp]
      clear hw9 hp j1 j2 j3 j4 k3 k9
      have hb9 := hbr.trans hbr9
      have k3 := (w43.bl (hb7.trans hb9)).all4
      have k9 := (bQ.bl hb9).all3
      have kp := b9.all4
      have hbo9 := hbo.bl hbr9
      by_cases c1 : (lW : Int) - (bw : Int) < -2
      · have HN := Lib.hid (HBs.out.trans (if_pos (.inl c1)))
        go_wp2_with fail
        exact ⟨⟨i + 1, t, d1, d2, hlt, by go_num, hb9, HN.out, hbo9⟩, by simp [RowKit.intOf] <;> omega⟩
      · by_cases c2 : 2 < (lW : Int) - (bw : Int)
        · have HN := Lib.hid (HBs.out.trans (if_pos (.inr c2)))
          go_wp2_with fail
          exact ⟨⟨i + 1, t, d1, d2, hlt, by go_num, hb9, HN.out, hbo9⟩, by simp [RowKit.intOf] <;> omega⟩
        · have HB2 := Lib.hid (HBs.out.trans (if_neg (by omega)))
          go_wp2_with fail
          refine (Hd.out _ hb9).mono ?_
          rintro e w10 ⟨rfl, hb910⟩
          have hb10 := hb9.trans hb910
          have hbo10 := hbo9.bl hb910
          have ko := hbo10.all7
          have kp := b9.bl hb910 |>.all4
          clear k3 k9
          have ho' : w7.heap.size ≤ o := ho7
          by_cases c3 : d1 < 0
          · have HN := Lib.hid (HB2.out.trans (if_pos (.inl c3)))
            have hd2 : d2 = d1 := by omega
            go_wp2_with fail
            exact ⟨⟨i + 1, l.text, d, d1, hlt, by go_num, (hb10.setCell ho' _).setCell ho' _, HN.out, by rw [← hd2]; exact (hbo10.set_ 0 _).set_ 5 _⟩, by simp [RowKit.intOf] <;> omega⟩
          · by_cases c4 : d < d1
            · have HN := Lib.hid (HB2.out.trans (if_pos (.inr c4)))
              go_wp2_with fail
              exact ⟨⟨i + 1, l.text, d, d1, hlt, by go_num, ((hb10.setCell ho' _).setCell ho' _).setCell ho' _, HN.out, ((hbo10.set_ 6 _).set_ 0 _).set_ 5 _⟩, by simp [RowKit.intOf] <;> omega⟩
            · have HB3 := Lib.hid (HB2.out.trans (if_neg (by omega)))
              by_cases c5 : d2 < 0
              · have HN := Lib.hid (HB3.out.trans (if_pos (.inl c5)))
                go_wp2_with fail
                exact ⟨⟨i + 1, t, d1, d, hlt, by go_num, hb10.setCell ho' _, HN.out, hbo10.set_ 6 _⟩, by simp [RowKit.intOf] <;> omega⟩
              · by_cases c6 : d < d2
                · have HN := Lib.hid (HB3.out.trans (if_pos (.inr c6)))
                  go_wp2_with fail
                  exact ⟨⟨i + 1, t, d1, d, hlt, by go_num, hb10.setCell ho' _, HN.out, hbo10.set_ 6 _⟩, by simp [RowKit.intOf] <;> omega⟩
                · have HN := Lib.hid (HB3.out.trans (if_neg (by omega)))
                  go_wp2_with fail
                  exact ⟨⟨i + 1, t, d1, d2, hlt, by go_num, hb10, HN.out, hbo10⟩, by simp [RowKit.intOf] <;> omega⟩
    · obtain rfl : i = ls.length := by omega
      have hbest := HBe.out
      rw [List.take_length] at hbest
      have ko := hbo.all7
      have k1 := (w41.bl (hb7.trans hbr)).all5
      have kz := (w44.bl (hb7.trans hbr)).all7
      have hoz : ¬ (o = w.heap.size + 1 + 1 + 1) := by have := hb7.le; omega
      have m1 := Int.mul_nonneg hm.1 (show 0 ≤ ht by omega)
      have m2 : most * ht ≤ 64000 := Int.le_trans (Int.mul_le_mul hm.2 hht.2 (by omega) (by omega)) (by decide)
      have m3 := Int.mul_nonneg m1 (show (0 : Int) ≤ (bw : Int) by omega)
      have m4 : most * ht * (bw : Int) ≤ 256000000 := Int.le_trans (Int.mul_le_mul m2 (show (bw : Int) ≤ 4000 by omega) (by omega) (by omega)) (by decide)
      have HBt := Lib.hid hbest
      clear hbest k9 HBe
      by_cases c1 : d1 < 0
      · have Hv := Lib.hid (show seenCells (bestOf cs bw H [] ls) X bw H most ht = [.string ⟨#[63]⟩, .int .i64 X, .int .i64 0, .int .i64 bw, .int .i64 H, .int .i64 (-1), .int .i64 (-1)] by
          rw [HBt.out]
          unfold seenCells farOff
          rw [if_pos (decide_eq_true (.inl c1))])
        go_wp2_with fail
        try simp only [Exit.then]
        refine bodyPost_ret (v := .agg #[.string ⟨#[63]⟩, .int .i64 X, .int .i64 0, .int .i64 bw, .int .i64 H, .int .i64 (-1), .int .i64 (-1)]) (by simp [results, Tryd.results86, go_sem, kz]) rfl ⟨by rw [← HCs.out, Hv.out], ?_⟩
        exact ((((((((w4b.trans (hb7.trans hbr)).setCell (by simp; omega) _).setCell (by simp; omega) _).setCell (by simp; omega) _).setCell (by simp; omega) _).setCell (by simp; omega) _).setCell (by simp; omega) _).setCell (by simp; omega) _)
      · by_cases c2 : most * ht * (bw : Int) < d1 * 1000
        · have Hv := Lib.hid (show seenCells (bestOf cs bw H [] ls) X bw H most ht = [.string ⟨#[63]⟩, .int .i64 X, .int .i64 0, .int .i64 bw, .int .i64 H, .int .i64 (-1), .int .i64 (-1)] by
            rw [HBt.out]
            unfold seenCells farOff
            rw [if_pos (decide_eq_true (.inr c2))])
          go_wp2_with fail
          try simp only [Exit.then]
          refine bodyPost_ret (v := .agg #[.string ⟨#[63]⟩, .int .i64 X, .int .i64 0, .int .i64 bw, .int .i64 H, .int .i64 (-1), .int .i64 (-1)]) (by simp [results, Tryd.results86, go_sem, kz]) rfl ⟨by rw [← HCs.out, Hv.out], ?_⟩
          exact ((((((((w4b.trans (hb7.trans hbr)).setCell (by simp; omega) _).setCell (by simp; omega) _).setCell (by simp; omega) _).setCell (by simp; omega) _).setCell (by simp; omega) _).setCell (by simp; omega) _).setCell (by simp; omega) _)
        · have Hv := Lib.hid (show seenCells (bestOf cs bw H [] ls) X bw H most ht = [.string ⟨t.toArray⟩, .int .i64 X, .int .i64 0, .int .i64 bw, .int .i64 H, .int .i64 d1, .int .i64 d2] by
            rw [HBt.out]
            unfold seenCells farOff
            rw [if_neg (by simp only [decide_eq_true_eq, not_or]; exact ⟨c1, c2⟩)])
          go_wp2_with fail
          try simp only [Exit.then]
          refine bodyPost_ret (v := .agg #[.string ⟨t.toArray⟩, .int .i64 X, .int .i64 0, .int .i64 bw, .int .i64 H, .int .i64 d1, .int .i64 d2]) (by simp [results, Tryd.results86, go_sem, kz]) rfl ⟨by rw [← HCs.out, Hv.out], ?_⟩
          exact ((((((((w4b.trans (hb7.trans hbr)).setCell (by simp; omega) _).setCell (by simp; omega) _).setCell (by simp; omega) _).setCell (by simp; omega) _).setCell (by simp; omega) _).setCell (by simp; omega) _).setCell (by simp; omega) _)

end Go.Proofs.YtfngcokfigbhgaaDoor
