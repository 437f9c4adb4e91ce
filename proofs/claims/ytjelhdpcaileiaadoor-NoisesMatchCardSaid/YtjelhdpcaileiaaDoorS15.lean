/- The law NoisesMatch answers true. -/
import Derived.Test.YtjelhdpcaileiaaDoorS13
import Derived.Test.YtjelhdpcaileiaaDoorS14
import Derived.Test.YtjelhdpcaileiaaDoorS7

namespace Go.Proofs.YtjelhdpcaileiaaDoor
open Go.RowKit

set_option maxRecDepth 100000 in
set_option maxHeartbeats 1000000 in
theorem noiseOfN_any (W H : Nat) (A : Option Addr) (ac : Nat) (bs : List Bool) (s p : Int) (w : World) (hA : Reads w 1 A (W * H) (bs.map .bool)) (hW : W ≤ 4000) (hH : H ≤ 4000) :
    Calls Tryd.prog 19 #[.agg #[.int .i64 W, .int .i64 H, .slice A (W * H) ac], .int .u32 s, .int .i64 p] w fun e w' => ∃ v, e = .returned v ∧ NPage (w.heap.size + 4) w' v W H ((grid W H (noiseF bs W s p)).map .bool) ∧ Bl w w' := by
  let w2 := ((((w).alloc (.cells #[.int .i64 W, .int .i64 H, .slice A (W * H) ac] 27)).alloc (.cells #[.int .u32 s] 28)).alloc (.cells #[.int .i64 p] 3)).alloc (.cells #[.int .i64 0, .int .i64 0, .slice none 0 0] 27)
  have w2b : Bl w w2 := ((((Bl.refl w).alloc _).alloc _).alloc _).alloc _
  have w21 : Blk w2 (w.heap.size) 27 #[.int .i64 W, .int .i64 H, .slice A (W * H) ac] := by
    have h0 := Blk.new (w) 27 #[.int .i64 W, .int .i64 H, .slice A (W * H) ac]
    exact (((h0.alloc _).alloc _).alloc _)
  have w22 : Blk w2 (w.heap.size + 1) 28 #[.int .u32 s] := by
    have h0 := Blk.new ((w).alloc (.cells #[.int .i64 W, .int .i64 H, .slice A (W * H) ac] 27)) 28 #[.int .u32 s]
    simp only [World.size_alloc] at h0
    exact ((h0.alloc _).alloc _)
  have w23 : Blk w2 (w.heap.size + 1 + 1) 3 #[.int .i64 p] := by
    have h0 := Blk.new (((w).alloc (.cells #[.int .i64 W, .int .i64 H, .slice A (W * H) ac] 27)).alloc (.cells #[.int .u32 s] 28)) 3 #[.int .i64 p]
    simp only [World.size_alloc] at h0
    exact (h0.alloc _)
  have w24 : Blk w2 (w.heap.size + 1 + 1 + 1) 27 #[.int .i64 0, .int .i64 0, .slice none 0 0] := by
    have h0 := Blk.new ((((w).alloc (.cells #[.int .i64 W, .int .i64 H, .slice A (W * H) ac] 27)).alloc (.cells #[.int .u32 s] 28)).alloc (.cells #[.int .i64 p] 3)) 27 #[.int .i64 0, .int .i64 0, .slice none 0 0]
    simp only [World.size_alloc] at h0
    exact h0
  have hbd : W * H ≤ 16000000 := by have := Nat.mul_le_mul hW hH; omega
  have hP : Paints Tryd.prog 79 #[.pointer (some ⟨w.heap.size, 0, none⟩), .pointer (some ⟨w.heap.size + 1, 0, none⟩), .pointer (some ⟨w.heap.size + 2, 0, none⟩)] Value.bool w2 W H (noiseF bs W s p) :=
    ⟨enters Tryd.func79 (by kernel_rfl) rfl, fun wy x y hb hx hy => noiseOf1_any _ _ _ W H A ac bs s p x y wy (w21.bl hb) (w22.bl hb) (w23.bl hb) ((hA.bl w2b).bl hb) hW hH hx hy⟩
  have HP := Lib.hid hP
  clear hP hA
  have k1 := w21.all3
  go_enter Tryd.func19, Tryd.ntmps19
  go_wp2_with fail
  refine (Made_any W H _ _ _ _ (by omega) (by omega) (by omega) HP.out).mono ?_
  rintro e w6 ⟨r, rfl, hpg, hb6⟩
  have kr3 := (w24.bl hb6).all3
  have hsz3 := w24.lt
  have hle6 := w2b.trans hb6
  obtain ⟨R, rc, rfl, hR, hRn⟩ := hpg
  have hRn' : ∀ ad, R = some ad → w.heap.size + 4 ≤ ad.block := fun ad h => by have := hRn ad h; omega
  have HR := Lib.hid hR; have HRn := Lib.hid hRn'
  clear hR hRn hRn'
  go_wp2_with fail
  refine bodyPost_ret (v := .agg #[.int .i64 W, .int .i64 H, .slice R (W * H) rc]) (by simp [results, Tryd.results19, go_sem, kr3]) rfl ⟨_, rfl, ⟨R, rc, rfl, ?_, HRn.out⟩, ?_⟩
  · exact ((HR.out.store HRn.out (by simp) _).store HRn.out (by simp) _).store HRn.out (by simp) _
  · exact (((hle6.setCell (by simp; omega) _).setCell (by simp; omega) _).setCell (by simp; omega) _)

set_option maxRecDepth 100000 in
set_option maxHeartbeats 1000000 in
theorem noises1_makes (g1 g2 g3 W H : Nat) (A : Option Addr) (ac : Nat) (bs : List Bool) (s p : Int) (w : World) (h1 : Blk w g1 27 #[.int .i64 W, .int .i64 H, .slice A (W * H) ac]) (h2 : Blk w g2 28 #[.int .u32 s]) (h3 : Blk w g3 3 #[.int .i64 p])
    (hA : Reads w 1 A (W * H) (bs.map .bool)) (hW : W ≤ 4000) (hH : H ≤ 4000) :
    MakesPage Tryd.prog 18 #[.pointer (some ⟨g1, 0, none⟩), .pointer (some ⟨g2, 0, none⟩), .pointer (some ⟨g3, 0, none⟩)] w W H ((grid W H (noiseF bs W s p)).map .bool) := by
  refine ⟨enters Tryd.func18 (by kernel_rfl) rfl, fun wx hx => ?_⟩
  have hb5 : Bl wx (wx.alloc (.cells #[.int .i64 0, .int .i64 0, .slice none 0 0] 27)) := (Bl.refl wx).alloc _
  have b5 := Blk.new wx 27 #[.int .i64 0, .int .i64 0, .slice none 0 0]
  have hxx := hx.trans hb5
  have k1 := (h1.bl hx).all3
  have k2 := (h2.bl hx).all1
  have k3 := (h3.bl hx).all1
  have l1 := (h1.bl hx).lt
  have l2 := (h2.bl hx).lt
  have l3 := (h3.bl hx).lt
  have hcall := noiseOfN_any W H A ac bs s p (wx.alloc (.cells #[.int .i64 0, .int .i64 0, .slice none 0 0] 27)) (hA.bl hxx) hW hH
  have Hcall := Lib.hid hcall
  clear hcall hA
  go_enter Tryd.func18, Tryd.ntmps18
  go_wp2_with fail
  refine Hcall.out.mono ?_
  rintro e w6 ⟨v, rfl, ⟨R, rc, rfl, hR, hRn⟩, hb6⟩
  have kr3 := (b5.bl hb6).all3
  have hle6 := hb5.trans hb6
  have hRn' : ∀ ad, R = some ad → wx.heap.size + 1 ≤ ad.block := fun ad h => by have := hRn ad h; simp at this; omega
  have HR := Lib.hid hR; have HRn := Lib.hid hRn'
  clear hR hRn hRn'
  go_wp2_with fail
  refine bodyPost_ret (v := .agg #[.int .i64 W, .int .i64 H, .slice R (W * H) rc]) (by simp [results, Tryd.results18, go_sem, kr3]) rfl ⟨_, rfl, ⟨R, rc, rfl, ?_⟩, ?_⟩
  · exact ((HR.out.store HRn.out (by simp) _).store HRn.out (by simp) _).store HRn.out (by simp) _
  · exact ((hle6.setCell (by simp) _).setCell (by simp) _).setCell (by simp) _

set_option maxRecDepth 100000 in
set_option maxHeartbeats 8000000 in
theorem lawNoises_any (nm : List UInt8) (ht gap sp : Int) (L : Option Addr) (c : Nat) (ls : List Ltr) (bW bH : Int) (A : Option Addr) (n bc : Nat) (bs : List Bool) (s p : Int) (t : List UInt8) (S : Option Addr) (sc : Nat) (ps : List Pg) (w : World) (hL : LtrsAt w L ls) (hA : Reads w 1 A n (bs.map .bool)) (hS : PgsAt w S ps)
    (hnm : nm.length ≤ 9223372036854775807) (ht' : t.length ≤ 9223372036854775807) (hn : ls.length ≤ 9223372036854775807) (hc : ls.length ≤ c) (hps : ps.length ≤ 9223372036854775807) :
    Calls Tryd.prog 3 #[.agg #[.string ⟨nm.toArray⟩, .int .i64 ht, .int .i64 gap, .int .i64 sp, .slice L ls.length c], .agg #[.int .i64 bW, .int .i64 bH, .slice A n bc], .int .u32 s, .int .i64 p, .string ⟨t.toArray⟩, .slice S ps.length sc] w fun e w' => e = .returned (.bool true) ∧ Bl w w' := by
  let w4 := ((((w).alloc (.cells #[.string ⟨nm.toArray⟩, .int .i64 ht, .int .i64 gap, .int .i64 sp, .slice L ls.length c] 24)).alloc (.cells #[.int .i64 bW, .int .i64 bH, .slice A n bc] 27)).alloc (.cells #[.int .u32 s] 28)).alloc (.cells #[.int .i64 p] 3)
  have w4b : Bl w w4 := ((((Bl.refl w).alloc _).alloc _).alloc _).alloc _
  have w41 : Blk w4 (w.heap.size) 24 #[.string ⟨nm.toArray⟩, .int .i64 ht, .int .i64 gap, .int .i64 sp, .slice L ls.length c] := by
    have h0 := Blk.new (w) 24 #[.string ⟨nm.toArray⟩, .int .i64 ht, .int .i64 gap, .int .i64 sp, .slice L ls.length c]
    exact (((h0.alloc _).alloc _).alloc _)
  have w42 : Blk w4 (w.heap.size + 1) 27 #[.int .i64 bW, .int .i64 bH, .slice A n bc] := by
    have h0 := Blk.new ((w).alloc (.cells #[.string ⟨nm.toArray⟩, .int .i64 ht, .int .i64 gap, .int .i64 sp, .slice L ls.length c] 24)) 27 #[.int .i64 bW, .int .i64 bH, .slice A n bc]
    simp only [World.size_alloc] at h0
    exact ((h0.alloc _).alloc _)
  have w43 : Blk w4 (w.heap.size + 1 + 1) 28 #[.int .u32 s] := by
    have h0 := Blk.new (((w).alloc (.cells #[.string ⟨nm.toArray⟩, .int .i64 ht, .int .i64 gap, .int .i64 sp, .slice L ls.length c] 24)).alloc (.cells #[.int .i64 bW, .int .i64 bH, .slice A n bc] 27)) 28 #[.int .u32 s]
    simp only [World.size_alloc] at h0
    exact (h0.alloc _)
  have w44 : Blk w4 (w.heap.size + 1 + 1 + 1) 3 #[.int .i64 p] := by
    have h0 := Blk.new ((((w).alloc (.cells #[.string ⟨nm.toArray⟩, .int .i64 ht, .int .i64 gap, .int .i64 sp, .slice L ls.length c] 24)).alloc (.cells #[.int .i64 bW, .int .i64 bH, .slice A n bc] 27)).alloc (.cells #[.int .u32 s] 28)) 3 #[.int .i64 p]
    simp only [World.size_alloc] at h0
    exact h0
  have lw4 : w4.heap.size = w.heap.size + 4 := by simp [w4]
  have HL := Lib.hid (hL.bl w4b); have HS := Lib.hid (hS.bl w4b); have HA := Lib.hid (hA.bl w4b)
  have hno := noise_any bW bH A n bc bs s p w4 (hA.bl w4b)
  obtain ⟨NE, hNE⟩ : ∃ x, x = noiseErr bW bH n p := ⟨_, rfl⟩
  rw [← hNE] at hno
  have HNE := Lib.hid hNE; have Hno := Lib.hid hno
  have k2 := w42.all3
  have k3 := w43.all1
  have k4 := w44.all1
  clear hL hS hA hno hNE
  go_enter Tryd.func3, Tryd.ntmps3
  go_wp2_with fail
  refine Hno.out.mono ?_
  rintro e w5 ⟨a, b, R, m, d, rfl, hres, hb5⟩
  clear_value w4
  obtain ⟨w6, hw6⟩ : ∃ x, x = w5.alloc (.cells #[.int .i64 a, .int .i64 b, .slice R m d] 27) := ⟨_, rfl⟩
  obtain ⟨o, ho⟩ : ∃ x, x = w5.heap.size := ⟨_, rfl⟩
  have bO : Blk w6 o 27 #[.int .i64 a, .int .i64 b, .slice R m d] := by rw [hw6, ho]; exact Blk.new _ _ _
  have hb56 : Bl w5 w6 := by rw [hw6]; exact (Bl.refl _).alloc _
  have hb6 := hb5.trans hb56
  have HRes := Lib.hid (hres.bl hb56)
  clear hres k2 k3 k4
  go_upto_region 2 with fail
  rw [← hw6, ← ho]
  clear hw6 ho
  have k2 := (w42.bl hb6).all3
  have k4 := (w44.bl hb6).all1
  have hf : firstNZ [pageErr bW bH n, whenI (!inB p 0 1000) 3] = NE := by rw [HNE.out]; rfl
  have HF := Lib.hid hf
  refine wp_region_flow [(true, 0), (true, 2), (false, 1), (false, 3), (true, 4), (false, 5), (false, 6), (false, 7), (true, 8)] (fun _ => false) (by kernel_rfl) (by kernel_rfl) (by kernel_rfl) (by kernel_rfl) ?_
  iterate 2
    apply Flow.calm2 _ _ rfl rfl
    · intro w' hb' K' hK'
      obtain ⟨hc', hf'⟩ := hb'.rule
      go_simp
      try go_ints
      exact hK'
    · intro K' hK'
      simp only [Act.put, List.setIfInBounds_toArray, List.set_cons_zero, List.set_cons_succ]
      exact hK'
  apply Flow.move rfl
  go_wp2_with fail
  refine (bitsError_any _ _ _ _ _ _).mono ?_
  rintro e w7 ⟨rfl, HB1⟩
  have hb67 : Bl w6 w7 := Bl.ofDrew HB1
  have k4 := (w44.bl (hb6.trans hb67)).all1
  go_wp2_with fail
  refine ⟨fun _ => (by first | exact HB1 | exact Bl.refl _), ?_⟩
  apply Flow.move rfl
  go_wp2_with fail
  refine (in_any _ _ _ _).mono ?_
  rintro e w' ⟨rfl, rfl⟩
  go_wp2_with fail
  refine ⟨fun _ => (by first | exact HB2 | exact Bl.refl _), ?_⟩
  iterate 1
    apply Flow.calm2 _ _ rfl rfl
    · intro w' hb' K' hK'
      obtain ⟨hc', hf'⟩ := hb'.rule
      go_simp
      try go_ints
      exact hK'
    · intro K' hK'
      simp only [Act.put, List.setIfInBounds_toArray, List.set_cons_zero, List.set_cons_succ]
      exact hK'
  apply Flow.move rfl
  go_wp2_with fail
  refine (when_any _ _ _).mono ?_
  rintro e w' ⟨rfl, rfl⟩
  go_wp2_with fail
  refine ⟨fun _ => (by first | exact HB3 | exact Bl.refl _), ?_⟩
  apply Flow.move rfl
  go_wp2_with fail
  first | refine ⟨fun _ => ?_, ?_⟩ | refine ⟨?_, ?_⟩
  · repeat' (first | exact Bl.refl _ | refine Bl.drewL ?_ | refine Bl.drew ?_ | refine Bl.alloc ?_ _)
  apply Flow.move rfl
  go_wp2_with fail
  refine (first2_any _ _ _ _ (Blk.new _ _ _)).mono ?_
  rintro e w' ⟨rfl, rfl⟩
  go_wp2_with fail
  refine ⟨fun _ => (by first | exact HB5 | exact Bl.refl _), ?_⟩
  iterate 1
    apply Flow.asg _ rfl
    · intro K' hK'
      simp only [Act.put, Act.eval, List.setIfInBounds_toArray, List.set_cons_zero, List.set_cons_succ, arr_getD, List.getD_cons_zero, List.getD_cons_succ]
      exact hK'
  refine Flow.done ?_
  obtain ⟨w8, hw8⟩ : ∃ x, x = w7.alloc (.cells #[.int .i64 (pageErr bW bH n), .int .i64 (whenI (!inB p 0 1000) 3)] 30) := ⟨_, rfl⟩
  have hb68 : Bl w6 w8 := by rw [hw8]; exact hb67.alloc _
  clear hf k2 k4
  go_upto_region 3 with fail
  rw [← hw8]
  clear hw8 HB1 hb67
  have hb8 := hb6.trans hb68
  have k2 := (w42.bl hb8).all3
  go_cut [47] from 19 to 76 (fun s47 wc => s47 = .bool (decide (NE = 0) && !smallB bW bH) ∧ Bl w8 wc)
  case first =>
    by_cases hz : NE = 0
    · subst hz
      go_wp2_with fail
      refine (glyphs_any _).mono ?_
      rintro e w9 ⟨rfl, hb9⟩
      have k2 := (w42.bl (hb8.trans hb9)).all3
      go_wp2_with fail
      refine (small_any _ _ _).mono ?_
      rintro e w' ⟨rfl, rfl⟩
      go_wp2_with fail
      go_meet
      case rel => exact ⟨by simp, hb9⟩
    · have hq : (NE == 0) = false := by simp [hz]
      have HNZ := Lib.hid hz
      clear hz
      go_wp2_with fail
      refine (glyphs_any _).mono ?_
      rintro e w9 ⟨rfl, hb9⟩
      go_wp2_with fail
      go_meet
      case rel => exact ⟨by simp [HNZ.out], hb9⟩
  case rest =>
    clear k2
    obtain ⟨rfl, hb89⟩ := hcut
    rename World => w9
    have hb9 := hb8.trans hb89
    cases hq : (decide (NE = 0) && !smallB bW bH)
    case true =>
      go_wp2_with fail
      refine (glyphs_any _).mono ?_
      rintro e w10 ⟨rfl, hb10⟩
      go_wp2_with fail
      go_ret
      exact ⟨rfl, w4b.trans (hb9.trans hb10)⟩
    case false =>
      have hsm : NE = 0 → smallB bW bH = true := fun h => by rw [h] at hq; simpa using hq
      have kO := (bO.bl (hb68.trans hb89)).all3
      have hres := HRes.out.bl (hb68.trans hb89)
      rw [HNE.out] at hres
      have hpg : NE = 0 → pageErr bW bH n = 0 := fun h => by
        have hz := firstNZ_zero (HF.out.trans h)
        exact hz _ (by simp)
      have hbi := bitsIs_any w4.heap.size NE bW.toNat bH.toNat (grid bW.toNat bH.toNat (noiseF bs bW.toNat s p)) a b R m d 18 #[.pointer (some ⟨w.heap.size + 1, 0, none⟩), .pointer (some ⟨w.heap.size + 1 + 1, 0, none⟩), .pointer (some ⟨w.heap.size + 1 + 1 + 1, 0, none⟩)] w9 (by rw [HNE.out]; exact hres) (fun h => by
        obtain ⟨W, H, rfl, rfl, rfl, hW, hH, -⟩ := page_nat (hpg h)
        simp only [Int.toNat_natCast]
        exact noises1_makes _ _ _ W H A bc bs s p w9 (w42.bl hb9) (w43.bl hb9) (w44.bl hb9) (HA.out.bl hb9) hW hH) (fun h => by
        obtain ⟨W, H, rfl, rfl, rfl, -, -, hWH⟩ := page_nat (hpg h)
        simp only [Int.toNat_natCast]
        omega)
      have Hbi := Lib.hid hbi
      clear hbi hpg hres hsm hq
      go_wp2_with fail
      refine Hbi.out.mono ?_
      rintro e w10 ⟨rfl, hb910⟩
      have hb10 := hb9.trans hb910
      have k1 := (w41.bl hb10).all5
      have hle := learn_any nm ht gap sp L c ls t S sc ps w10 (HL.out.bl hb10) (HS.out.bl hb10) hnm ht' hn hps
      have Hle := Lib.hid hle
      clear hle kO
      go_wp2_with fail
      refine Hle.out.mono ?_
      rintro e w11 ⟨nm1, h1, g1, s1, R1, m1, d1, e1, rfl, hr1, hb1011⟩
      have hb11 := hb10.trans hb1011
      obtain ⟨w12, hw12⟩ : ∃ x, x = w11.alloc (.cells #[.string ⟨nm1.toArray⟩, .int .i64 h1, .int .i64 g1, .int .i64 s1, .slice R1 m1 d1] 24) := ⟨_, rfl⟩
      obtain ⟨o1, ho1⟩ : ∃ x, x = w11.heap.size := ⟨_, rfl⟩
      have bG : Blk w12 o1 24 #[.string ⟨nm1.toArray⟩, .int .i64 h1, .int .i64 g1, .int .i64 s1, .slice R1 m1 d1] := by rw [hw12, ho1]; exact Blk.new _ _ _
      have hb1112 : Bl w11 w12 := by rw [hw12]; exact (Bl.refl _).alloc _
      have hb12 := hb11.trans hb1112
      have HR1 := Lib.hid hr1
      clear hr1 k1 Hle
      go_upto_region 8 with fail
      rw [← hw12, ← ho1]
      clear hw12 ho1
      have k1 := (w41.bl hb12).all5
      have hlo := learnedOf_any nm ht gap sp L c ls t S sc ps w12 (HL.out.bl hb12) (HS.out.bl hb12) hnm ht' hn hc hps
      have Hlo := Lib.hid hlo
      clear hlo
      go_wp2_with fail
      refine Hlo.out.mono ?_
      rintro e w13 ⟨nm2, h2, g2, s2, R2, m2, d2, e2, rfl, hr2, hb1213⟩
      obtain ⟨rfl, rfl, rfl, rfl, rfl, l1, l2, rfl, rfl, hf, hl1, hl2, hn1, hm1⟩ := HR1.out.same hr2
      have hb13 := hb12.trans hb1213
      obtain ⟨w14, hw14⟩ : ∃ x, x = w13.alloc (.cells #[.string ⟨nm1.toArray⟩, .int .i64 h1, .int .i64 g1, .int .i64 s1, .slice R2 l2.length d2] 24) := ⟨_, rfl⟩
      obtain ⟨o2, ho2⟩ : ∃ x, x = w13.heap.size := ⟨_, rfl⟩
      have bH2 : Blk w14 o2 24 #[.string ⟨nm1.toArray⟩, .int .i64 h1, .int .i64 g1, .int .i64 s1, .slice R2 l2.length d2] := by rw [hw14, ho2]; exact Blk.new _ _ _
      have hb1314 : Bl w13 w14 := by rw [hw14]; exact (Bl.refl _).alloc _
      have hb14 := hb13.trans hb1314
      have kG := (bG.bl (hb1213.trans hb1314)).all5
      have kH := bH2.all5
      have Hsf := Lib.hid (sameFont_any ⟨nm1.toArray⟩ h1 g1 s1 R1 R2 d1 d2 l1 l2 w14 hf (hl1.bl ((hb1112.trans hb1213).trans hb1314)) (hl2.bl hb1314) (by omega) hm1)
      clear hr2 HR1 Hlo k1 hf hl1 hl2 hm1 hn1
      go_upto_region 9 with fail
      rw [← hw14, ← ho2]
      clear hw14 ho2
      go_wp2_with fail
      refine Hsf.out.mono ?_
      rintro e w15 ⟨rfl, hb1415⟩
      go_wp2_with fail
      go_ret
      exact ⟨rfl, w4b.trans (hb14.trans hb1415)⟩

end Go.Proofs.YtjelhdpcaileiaaDoor
