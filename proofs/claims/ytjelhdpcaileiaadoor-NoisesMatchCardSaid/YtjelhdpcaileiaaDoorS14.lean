/- bedref2.LearnedOf. -/
import Derived.Test.YtjelhdpcaileiaaDoorS13
import Derived.Test.YtjelhdpcaileiaaDoorS12
import Derived.Test.YtjelhdpcaileiaaDoorS2

namespace Go.Proofs.YtjelhdpcaileiaaDoor
open Go.RowKit

/-- The error so far, and that of the samples that are left. -/
def leftErr (e ht W0 : Int) (ps : List Pg) : Int := if e = 0 then smpsErr ht W0 ps else e
theorem leftErr_end (e ht W0 : Int) : leftErr e ht W0 [] = e := by
  unfold leftErr
  split
  · rename_i h; exact h.symm
  · rfl
theorem leftErr_step {e ht W0 : Int} {ps : List Pg} {i : Nat} {p : Pg} (h : ps[i]? = some p) : leftErr (if e = 0 then smpErr ht W0 p else e) ht W0 (ps.drop (i + 1)) = leftErr e ht W0 (ps.drop i) := by
  unfold leftErr
  by_cases h0 : e = 0
  · rw [if_pos h0, if_pos h0, smpsErr_from h]
  · rw [if_neg h0, if_neg h0, if_neg h0]
theorem learnErr_left (fe : Int) (t : List UInt8) (n : Nat) (se : Int) : learnErr fe t n se = if firstNZ [fe, whenI (!textB t) 2, whenI (decide (n = 0)) 9, whenI (decide (100 < n)) 4] = 0 then se else firstNZ [fe, whenI (!textB t) 2, whenI (decide (n = 0)) 9, whenI (decide (100 < n)) 4] := by
  unfold learnErr
  generalize whenI (!textB t) 2 = a
  generalize whenI (decide (n = 0)) 9 = b
  generalize whenI (decide (100 < n)) 4 = c
  show (if fe = 0 then (if a = 0 then (if b = 0 then (if c = 0 then (if se = 0 then 0 else se) else c) else b) else a) else fe) = if (if fe = 0 then (if a = 0 then (if b = 0 then (if c = 0 then 0 else c) else b) else a) else fe) = 0 then se else (if fe = 0 then (if a = 0 then (if b = 0 then (if c = 0 then 0 else c) else b) else a) else fe)
  by_cases h1 : fe = 0 <;> by_cases h2 : a = 0 <;> by_cases h3 : b = 0 <;> by_cases h4 : c = 0 <;> by_cases h5 : se = 0 <;> simp [h1, h2, h3, h4, h5]
theorem len100 (n : Nat) : decide (100 < (n : Int)) = decide (100 < n) := decide_eq_decide.2 (by omega)
theorem smp_a {e ht W0 : Int} {p : Pg} (h : e ≠ 0) : firstNZ [e, pageErr p.W p.H p.m, whenI false 11] = (if e = 0 then smpErr ht W0 p else e) := by
  show (if e = 0 then _ else e) = _
  rw [if_neg h, if_neg h]
theorem smp_b {ht W0 : Int} {p : Pg} (h : pageErr p.W p.H p.m ≠ 0) : firstNZ [0, pageErr p.W p.H p.m, whenI false 11] = (if (0 : Int) = 0 then smpErr ht W0 p else 0) := by
  show (if pageErr p.W p.H p.m = 0 then _ else pageErr p.W p.H p.m) = smpErr ht W0 p
  unfold smpErr
  rw [if_neg h, if_neg h]
theorem smp_c {ht W0 : Int} {p : Pg} (h : pageErr p.W p.H p.m = 0) {b : Bool} (hb : (p.H != ht || p.W != W0) = b) : firstNZ [0, pageErr p.W p.H p.m, whenI b 11] = (if (0 : Int) = 0 then smpErr ht W0 p else 0) := by
  show (if pageErr p.W p.H p.m = 0 then (if whenI b 11 = 0 then 0 else whenI b 11) else pageErr p.W p.H p.m) = smpErr ht W0 p
  unfold smpErr
  rw [if_pos h, if_pos h, hb]
  cases b <;> rfl

set_option maxRecDepth 100000 in
set_option maxHeartbeats 8000000 in
theorem learnedOf_any (nm : List UInt8) (ht gap sp : Int) (L : Option Addr) (c : Nat) (ls : List Ltr) (t : List UInt8) (S : Option Addr) (sc : Nat) (ps : List Pg) (w : World) (hL : LtrsAt w L ls) (hS : PgsAt w S ps)
    (hnm : nm.length ≤ 9223372036854775807) (ht' : t.length ≤ 9223372036854775807) (hn : ls.length ≤ 9223372036854775807) (hc : ls.length ≤ c) (hps : ps.length ≤ 9223372036854775807) :
    Calls Tryd.prog 21 #[.agg #[.string ⟨nm.toArray⟩, .int .i64 ht, .int .i64 gap, .int .i64 sp, .slice L ls.length c], .string ⟨t.toArray⟩, .slice S ps.length sc] w fun e w' =>
      ∃ nm' h' g' s' R m d err, e = .returned (.tuple #[.agg #[.string ⟨nm'.toArray⟩, .int .i64 h', .int .i64 g', .int .i64 s', .slice R m d], .int .i64 err]) ∧ LearnRes w' nm ht gap sp ls t ps nm' h' g' s' R m err ∧ Bl w w' := by
  let w1 := ((((w).alloc (.cells #[.string ⟨nm.toArray⟩, .int .i64 ht, .int .i64 gap, .int .i64 sp, .slice L ls.length c] 24)).alloc (.cells #[.string ⟨t.toArray⟩] 9)).alloc (.cells #[.slice S ps.length sc] 29)).alloc (.cells #[.string ⟨#[]⟩, .int .i64 0, .int .i64 0, .int .i64 0, .slice none 0 0] 24)
  have w1b : Bl w w1 := ((((Bl.refl w).alloc _).alloc _).alloc _).alloc _
  have w11 : Blk w1 (w.heap.size) 24 #[.string ⟨nm.toArray⟩, .int .i64 ht, .int .i64 gap, .int .i64 sp, .slice L ls.length c] := by
    have h0 := Blk.new (w) 24 #[.string ⟨nm.toArray⟩, .int .i64 ht, .int .i64 gap, .int .i64 sp, .slice L ls.length c]
    exact (((h0.alloc _).alloc _).alloc _)
  have w12 : Blk w1 (w.heap.size + 1) 9 #[.string ⟨t.toArray⟩] := by
    have h0 := Blk.new ((w).alloc (.cells #[.string ⟨nm.toArray⟩, .int .i64 ht, .int .i64 gap, .int .i64 sp, .slice L ls.length c] 24)) 9 #[.string ⟨t.toArray⟩]
    simp only [World.size_alloc] at h0
    exact ((h0.alloc _).alloc _)
  have w13 : Blk w1 (w.heap.size + 1 + 1) 29 #[.slice S ps.length sc] := by
    have h0 := Blk.new (((w).alloc (.cells #[.string ⟨nm.toArray⟩, .int .i64 ht, .int .i64 gap, .int .i64 sp, .slice L ls.length c] 24)).alloc (.cells #[.string ⟨t.toArray⟩] 9)) 29 #[.slice S ps.length sc]
    simp only [World.size_alloc] at h0
    exact (h0.alloc _)
  have w14 : Blk w1 (w.heap.size + 1 + 1 + 1) 24 #[.string ⟨#[]⟩, .int .i64 0, .int .i64 0, .int .i64 0, .slice none 0 0] := by
    have h0 := Blk.new ((((w).alloc (.cells #[.string ⟨nm.toArray⟩, .int .i64 ht, .int .i64 gap, .int .i64 sp, .slice L ls.length c] 24)).alloc (.cells #[.string ⟨t.toArray⟩] 9)).alloc (.cells #[.slice S ps.length sc] 29)) 24 #[.string ⟨#[]⟩, .int .i64 0, .int .i64 0, .int .i64 0, .slice none 0 0]
    simp only [World.size_alloc] at h0
    exact h0
  have lw1 : w1.heap.size = w.heap.size + 4 := by simp [w1]
  have HL := Lib.hid (hL.bl w1b); have HL0 := Lib.hid hL
  have HS := Lib.hid (hS.bl w1b)
  have hfe := fun wx (hb : Bl w1 wx) => fontError_any nm ht gap sp L c ls wx ((hL.bl w1b).bl hb) hnm hn hc
  obtain ⟨fe, hfe'⟩ : ∃ x, x = fontErr (nameB nm) ht gap sp ls := ⟨_, rfl⟩
  rw [← hfe'] at hfe
  have Hfe := Lib.hid hfe; have HFe := Lib.hid hfe'
  have k1 := w11.all5
  have k2 := w12.all1
  have k3 := w13.all1
  have k4 := w14.all5
  clear hL hS hfe hfe'
  obtain ⟨LE, hLE⟩ : ∃ x, x = learnErr fe t ps.length (smpsErr ht (wide0 ps) ps) := ⟨_, rfl⟩
  have HLE := Lib.hid hLE
  clear hLE
  go_enter Tryd.func21, Tryd.ntmps21
  go_upto_region 1 with fail
  have hw1 : ((((w.alloc (.cells #[.string ⟨nm.toArray⟩, .int .i64 ht, .int .i64 gap, .int .i64 sp, .slice L ls.length c] 24)).alloc (.cells #[.string ⟨t.toArray⟩] 9)).alloc (.cells #[.slice S ps.length sc] 29)).alloc (.cells #[.string ⟨#[]⟩, .int .i64 0, .int .i64 0, .int .i64 0, .slice none 0 0] 24)) = w1 := rfl
  rw [hw1]
  clear hw1
  clear_value w1
  go_cut [8] from 17 to 132 (fun s8 wc => ∃ E, s8 = .int .i64 E ∧ leftErr E ht (wide0 ps) ps = LE ∧ Bl w1 wc)
  case first =>
    obtain ⟨E0, hE0⟩ : ∃ E, E = firstNZ [fe, whenI (!textB t) 2, whenI ((ps.length : Int) == 0) 9, whenI (decide (100 < (ps.length : Int))) 4] := ⟨_, rfl⟩
    have HE0 := Lib.hid hE0
    have hf := hE0.symm
    clear hE0
    refine wp_region_flow [(true, 0), (true, 2), (true, 6), (true, 7), (true, 8), (true, 10), (true, 11), (true, 12), (false, 1), (false, 3), (true, 4), (false, 5), (false, 9), (false, 13), (false, 14), (false, 15), (true, 16)] (fun _ => false) (by kernel_rfl) (by kernel_rfl) (by kernel_rfl) (by kernel_rfl) ?_
    iterate 3
      apply Flow.calm2 _ _ rfl rfl
      · intro w' hb' K' hK'
        obtain ⟨hc', hf'⟩ := hb'.rule
        go_simp
        try go_ints
        exact hK'
      · intro K' hK'
        simp only [Act.put, List.setIfInBounds_toArray, List.set_cons_zero, List.set_cons_succ]
        exact hK'
    iterate 1
      apply Flow.calm2 _ _ rfl rfl
      · intro w' hb' K' hK'
        obtain ⟨hc', hf'⟩ := hb'.rule
        go_simp
        try go_ints
        exact hK'
      · intro K' hK'
        simp only [Act.put, List.setIfInBounds_toArray, List.set_cons_zero, List.set_cons_succ]
        exact hK'
    iterate 1
      apply Flow.calm2 _ _ rfl rfl
      · intro w' hb' K' hK'
        obtain ⟨hc', hf'⟩ := hb'.rule
        go_simp
        try go_ints
        exact hK'
      · intro K' hK'
        simp only [Act.put, List.setIfInBounds_toArray, List.set_cons_zero, List.set_cons_succ]
        exact hK'
    iterate 1
      apply Flow.calm2 _ _ rfl rfl
      · intro w' hb' K' hK'
        obtain ⟨hc', hf'⟩ := hb'.rule
        go_simp
        try go_ints
        exact hK'
      · intro K' hK'
        simp only [Act.put, List.setIfInBounds_toArray, List.set_cons_zero, List.set_cons_succ]
        exact hK'
    iterate 1
      apply Flow.calm2 _ _ rfl rfl
      · intro w' hb' K' hK'
        obtain ⟨hc', hf'⟩ := hb'.rule
        go_simp
        try go_ints
        exact hK'
      · intro K' hK'
        simp only [Act.put, List.setIfInBounds_toArray, List.set_cons_zero, List.set_cons_succ]
        exact hK'
    iterate 1
      apply Flow.calm2 _ _ rfl rfl
      · intro w' hb' K' hK'
        obtain ⟨hc', hf'⟩ := hb'.rule
        go_simp
        try go_ints
        exact hK'
      · intro K' hK'
        simp only [Act.put, List.setIfInBounds_toArray, List.set_cons_zero, List.set_cons_succ]
        exact hK'
    apply Flow.move rfl
    go_wp2_with fail
    refine (Hfe.out _ (Bl.refl _).drew).mono ?_
    rintro e w2 ⟨rfl, HB1⟩
    have hb2 : Bl w1 w2 := Bl.ofDrew HB1
    have k1 := (w11.bl hb2).all5
    have k2 := (w12.bl hb2).all1
    have k3 := (w13.bl hb2).all1
    go_wp2_with fail
    refine ⟨fun _ => (by first | exact HB1 | exact Bl.refl _), ?_⟩
    apply Flow.move rfl
    go_wp2_with fail
    refine (letterText_any _ _ ht').mono ?_
    rintro e w' ⟨rfl, rfl⟩
    go_wp2_with fail
    refine ⟨fun _ => (by first | exact HB2 | exact Bl.refl _), ?_⟩
    iterate 1
      apply Flow.calm2 _ _ rfl rfl
      · intro w' hb' K' hK'
        obtain ⟨hc', hf'⟩ := hb'.rule
        go_simp
        try go_ints
        exact hK'
      · intro K' hK'
        simp only [Act.put, List.setIfInBounds_toArray, List.set_cons_zero, List.set_cons_succ]
        exact hK'
    apply Flow.move rfl
    go_wp2_with fail
    refine (when_any _ _ _).mono ?_
    rintro e w' ⟨rfl, rfl⟩
    go_wp2_with fail
    refine ⟨fun _ => (by first | exact HB3 | exact Bl.refl _), ?_⟩
    apply Flow.move rfl
    go_wp2_with fail
    refine (when_any _ _ _).mono ?_
    rintro e w' ⟨rfl, rfl⟩
    go_wp2_with fail
    refine ⟨fun _ => (by first | exact HB4 | exact Bl.refl _), ?_⟩
    apply Flow.move rfl
    go_wp2_with fail
    refine (when_any _ _ _).mono ?_
    rintro e w' ⟨rfl, rfl⟩
    go_wp2_with fail
    refine ⟨fun _ => (by first | exact HB5 | exact Bl.refl _), ?_⟩
    apply Flow.move rfl
    go_wp2_with fail
    first | refine ⟨fun _ => ?_, ?_⟩ | refine ⟨?_, ?_⟩
    · repeat' (first | exact Bl.refl _ | refine Bl.drewL ?_ | refine Bl.drew ?_ | refine Bl.alloc ?_ _)
    apply Flow.move rfl
    go_wp2_with fail
    refine (first4_any _ _ _ _ _ _ (Blk.new _ _ _)).mono ?_
    rintro e w' ⟨rfl, rfl⟩
    go_wp2_with fail
    refine ⟨fun _ => (by first | exact HB7 | exact Bl.refl _), ?_⟩
    iterate 1
      apply Flow.asg _ rfl
      · intro K' hK'
        simp only [Act.put, Act.eval, List.setIfInBounds_toArray, List.set_cons_zero, List.set_cons_succ, arr_getD, List.getD_cons_zero, List.getD_cons_succ]
        exact hK'
    refine Flow.done ?_
    go_wp2_with fail
    go_meet
    case rel => exact ⟨E0, rfl, by rw [HLE.out, learnErr_left, HE0.out, len0, len100]; rfl, hb2.alloc _⟩
  case rest =>
    obtain ⟨E0, rfl, hE0, hbc⟩ := hcut
    rename World => wa
    have HE0 := Lib.hid hE0
    have k1' := (w11.bl hbc).all5
    have k3' := (w13.bl hbc).all1
    clear hE0 k1 k2 k3 k4
    go_wp2_with fail
    go_loopw [8, 35] (fun v u wr => ∃ (i : Nat) (E : Int), i ≤ ps.length ∧ v = .int .i64 E ∧ u = .int .i64 i ∧ leftErr E ht (wide0 ps) (ps.drop i) = LE ∧ Bl w1 wr) (fun _ u _ => ps.length - (RowKit.intOf u).toNat)
    case atStart => exact ⟨0, E0, Nat.zero_le _, rfl, rfl, HE0.out, hbc⟩
    case round =>
      clear k1' k3' hbc
      obtain ⟨i, E, hi, rfl, rfl, hE, hbr⟩ := hrel
      have HE := Lib.hid hE
      clear hE HE0
      have k1 := (w11.bl hbr).all5
      have k3 := (w13.bl hbr).all1
      by_cases hlt : i < ps.length
      · have hg : ps[i]? = some ps[i] := List.getElem?_eq_getElem hlt
        obtain ⟨p, hp⟩ : ∃ l, l = ps[i] := ⟨_, rfl⟩
        rw [← hp] at hg
        obtain ⟨p0, hp0⟩ : ∃ l, ps[0]? = some l := ⟨ps[0], List.getElem?_eq_getElem (by omega)⟩
        have hw0 : wide0 ps = p0.W := by unfold wide0; rw [List.head?_eq_getElem?, hp0]; rfl
        have hst := leftErr_step (e := E) (ht := ht) (W0 := wide0 ps) hg
        rw [HE.out] at hst
        rw [hw0] at hst
        obtain ⟨ad, rfl, j1, j2, j3⟩ := (HS.out.bl hbr).at_ hg
        have HS0 := Lib.hid (fun wx (hb : Bl w1 wx) => (HS.out.bl hb).at_ hp0)
        have Hst := Lib.hid hst; have Hw0 := Lib.hid hw0
        clear hst hw0 hg hp hp0
        go_upto_region 5 with fail
        obtain ⟨w5, hw5⟩ : ∃ x, x = wr.alloc (.cells #[.int .i64 p.W, .int .i64 p.H, .slice p.A p.m p.c] 27) := ⟨_, rfl⟩
        have b5 : Blk w5 wr.heap.size 27 #[.int .i64 p.W, .int .i64 p.H, .slice p.A p.m p.c] := by rw [hw5]; exact Blk.new _ _ _
        have hb5 : Bl w1 w5 := by rw [hw5]; exact hbr.alloc _
        rw [← hw5]
        clear hw5 j1 j2 j3 k1 k3
        have k1 := (w11.bl hb5).all5
        have k3 := (w13.bl hb5).all1
        have hp1 : 0 < ps.length := by omega
        have k6 := b5.all3
        have o1 : w5.cell? ad = some (.int .i64 p0.W) := by
          obtain ⟨ad', e, o1, -, -⟩ := HS0.out w5 hb5
          injection e with e
          subst e
          rw [Nat.zero_mul, Addr.add_zero'] at o1
          exact o1
        have B5 := Lib.hid b5; have Hb5 := Lib.hid hb5
        clear b5 hb5
        obtain ⟨pe, hpe⟩ : ∃ x, x = pageErr p.W p.H p.m := ⟨_, rfl⟩
        have HPe := Lib.hid hpe
        have hbe := fun wx => bitsError_any p.W p.H p.A p.m p.c wx
        rw [← hpe] at hbe
        have Hbe := Lib.hid hbe
        clear hbe
        obtain ⟨E', hE'⟩ : ∃ x, x = (if E = 0 then smpErr ht p0.W p else E) := ⟨_, rfl⟩
        have hst := Hst.out
        rw [← hE', ← Hw0.out] at hst
        have HSt := Lib.hid hst
        have HE' := Lib.hid hE'
        clear hst hE' hpe Hst
        by_cases hz : E = 0
        case neg =>
          have hq : (E == 0) = false := by simp [hz]
          have hf : firstNZ [E, pe, whenI false 11] = E' := by rw [HE'.out, HPe.out]; exact smp_a hz
          clear hz
          refine wp_region_flow [(true, 0), (true, 1), (true, 3), (true, 4), (false, 2), (true, 5), (true, 6), (false, 7), (true, 8), (true, 9), (true, 10), (true, 11), (true, 12), (true, 13), (true, 14), (true, 15), (true, 16), (true, 17), (true, 18), (true, 19), (true, 20), (true, 21), (true, 22), (true, 23), (true, 24), (true, 25), (false, 26), (false, 27), (false, 28), (true, 29)] (fun _ => false) (by kernel_rfl) (by kernel_rfl) (by kernel_rfl) (by kernel_rfl) ?_
          iterate 1
            apply Flow.mv _ rfl
            · intro K' hK'
              simp only [Act.put, Act.eval, List.setIfInBounds_toArray, List.set_cons_zero, List.set_cons_succ, arr_getD, List.getD_cons_zero, List.getD_cons_succ]
              exact hK'
          iterate 1
            apply Flow.calm2 _ _ rfl rfl
            · intro w' hb' K' hK'
              obtain ⟨hc', hf'⟩ := hb'.rule
              go_simp
              try go_ints
              exact hK'
            · intro K' hK'
              simp only [Act.put, List.setIfInBounds_toArray, List.set_cons_zero, List.set_cons_succ]
              exact hK'
          iterate 1
            apply Flow.mv _ rfl
            · intro K' hK'
              simp only [Act.put, Act.eval, List.setIfInBounds_toArray, List.set_cons_zero, List.set_cons_succ, arr_getD, List.getD_cons_zero, List.getD_cons_succ]
              exact hK'
          iterate 1
            apply Flow.calm2 _ _ rfl rfl
            · intro w' hb' K' hK'
              obtain ⟨hc', hf'⟩ := hb'.rule
              go_simp
              try go_ints
              exact hK'
            · intro K' hK'
              simp only [Act.put, List.setIfInBounds_toArray, List.set_cons_zero, List.set_cons_succ]
              exact hK'
          apply Flow.move rfl
          go_wp2_with fail
          refine (Hbe.out _).mono ?_
          rintro e w7 ⟨rfl, HB1⟩
          have hb7 : Bl w5 w7 := Bl.ofDrew HB1
          have k1 := (w11.bl (Hb5.out.trans hb7)).all5
          have k3 := (w13.bl (Hb5.out.trans hb7)).all1
          have k6 := (B5.out.bl hb7).all3
          have o2 := hb7.at o1
          go_wp2_with fail
          refine ⟨fun _ => (by first | exact HB1 | exact Bl.refl _), ?_⟩
          iterate 1
            apply Flow.mv _ rfl
            · intro K' hK'
              simp only [Act.put, Act.eval, List.setIfInBounds_toArray, List.set_cons_zero, List.set_cons_succ, arr_getD, List.getD_cons_zero, List.getD_cons_succ]
              exact hK'
          first
            | (apply Flow.pass rfl (by rfl))
            | (apply Flow.calmG _ rfl (by rfl)
               · intro w' hb'
                 obtain ⟨hc', hf'⟩ := hb'.rule
                 go_simp
                 all_goals (try rfl))
          simp only [Act.put, List.setIfInBounds_toArray, List.set_cons_zero, List.set_cons_succ]
          try go_ints
          -- a guarded mover
          apply Flow.move rfl
          go_wp2_with fail
          refine ⟨fun _ => Bl.refl _, ?_⟩
          first
            | (apply Flow.pass rfl (by rfl))
            | (apply Flow.calmG _ rfl (by rfl)
               · intro w' hb'
                 obtain ⟨hc', hf'⟩ := hb'.rule
                 go_simp
                 all_goals (try rfl))
          simp only [Act.put, List.setIfInBounds_toArray, List.set_cons_zero, List.set_cons_succ]
          try go_ints
          iterate 1
            apply Flow.calm2 _ _ rfl rfl
            · intro w' hb' K' hK'
              obtain ⟨hc', hf'⟩ := hb'.rule
              go_simp
              try go_ints
              exact hK'
            · intro K' hK'
              simp only [Act.put, List.setIfInBounds_toArray, List.set_cons_zero, List.set_cons_succ]
              exact hK'
          iterate 1
            apply Flow.mv _ rfl
            · intro K' hK'
              simp only [Act.put, Act.eval, List.setIfInBounds_toArray, List.set_cons_zero, List.set_cons_succ, arr_getD, List.getD_cons_zero, List.getD_cons_succ]
              exact hK'
          first
            | (apply Flow.pass rfl (by rfl))
            | (apply Flow.calmG _ rfl (by rfl)
               · intro w' hb'
                 obtain ⟨hc', hf'⟩ := hb'.rule
                 go_simp
                 all_goals (try rfl))
          simp only [Act.put, List.setIfInBounds_toArray, List.set_cons_zero, List.set_cons_succ]
          try go_ints
          first
            | (apply Flow.pass rfl (by rfl))
            | (apply Flow.calmG _ rfl (by rfl)
               · intro w' hb'
                 obtain ⟨hc', hf'⟩ := hb'.rule
                 go_simp
                 all_goals (try rfl))
          simp only [Act.put, List.setIfInBounds_toArray, List.set_cons_zero, List.set_cons_succ]
          try go_ints
          first
            | (apply Flow.pass rfl (by rfl))
            | (apply Flow.calmG _ rfl (by rfl)
               · intro w' hb'
                 obtain ⟨hc', hf'⟩ := hb'.rule
                 go_simp
                 all_goals (try rfl))
          simp only [Act.put, List.setIfInBounds_toArray, List.set_cons_zero, List.set_cons_succ]
          try go_ints
          first
            | (apply Flow.pass rfl (by rfl))
            | (apply Flow.calmG _ rfl (by rfl)
               · intro w' hb'
                 obtain ⟨hc', hf'⟩ := hb'.rule
                 go_simp
                 all_goals (try rfl))
          simp only [Act.put, List.setIfInBounds_toArray, List.set_cons_zero, List.set_cons_succ]
          try go_ints
          first
            | (apply Flow.pass rfl (by rfl))
            | (apply Flow.calmG _ rfl (by rfl)
               · intro w' hb'
                 obtain ⟨hc', hf'⟩ := hb'.rule
                 go_simp
                 all_goals (try rfl))
          simp only [Act.put, List.setIfInBounds_toArray, List.set_cons_zero, List.set_cons_succ]
          try go_ints
          first
            | (apply Flow.pass rfl (by rfl))
            | (apply Flow.calmG _ rfl (by rfl)
               · intro w' hb'
                 obtain ⟨hc', hf'⟩ := hb'.rule
                 go_simp
                 all_goals (try rfl))
          simp only [Act.put, List.setIfInBounds_toArray, List.set_cons_zero, List.set_cons_succ]
          try go_ints
          first
            | (apply Flow.pass rfl (by rfl))
            | (apply Flow.calmG _ rfl (by rfl)
               · intro w' hb'
                 obtain ⟨hc', hf'⟩ := hb'.rule
                 go_simp
                 all_goals (try rfl))
          simp only [Act.put, List.setIfInBounds_toArray, List.set_cons_zero, List.set_cons_succ]
          try go_ints
          first
            | (apply Flow.pass rfl (by rfl))
            | (apply Flow.calmG _ rfl (by rfl)
               · intro w' hb'
                 obtain ⟨hc', hf'⟩ := hb'.rule
                 go_simp
                 all_goals (try rfl))
          simp only [Act.put, List.setIfInBounds_toArray, List.set_cons_zero, List.set_cons_succ]
          try go_ints
          first
            | (apply Flow.pass rfl (by rfl))
            | (apply Flow.calmG _ rfl (by rfl)
               · intro w' hb'
                 obtain ⟨hc', hf'⟩ := hb'.rule
                 go_simp
                 all_goals (try rfl))
          simp only [Act.put, List.setIfInBounds_toArray, List.set_cons_zero, List.set_cons_succ]
          try go_ints
          first
            | (apply Flow.pass rfl (by rfl))
            | (apply Flow.calmG _ rfl (by rfl)
               · intro w' hb'
                 obtain ⟨hc', hf'⟩ := hb'.rule
                 go_simp
                 all_goals (try rfl))
          simp only [Act.put, List.setIfInBounds_toArray, List.set_cons_zero, List.set_cons_succ]
          try go_ints
          first
            | (apply Flow.pass rfl (by rfl))
            | (apply Flow.calmG _ rfl (by rfl)
               · intro w' hb'
                 obtain ⟨hc', hf'⟩ := hb'.rule
                 go_simp
                 all_goals (try rfl))
          simp only [Act.put, List.setIfInBounds_toArray, List.set_cons_zero, List.set_cons_succ]
          try go_ints
          first
            | (apply Flow.pass rfl (by rfl))
            | (apply Flow.calmG _ rfl (by rfl)
               · intro w' hb'
                 obtain ⟨hc', hf'⟩ := hb'.rule
                 go_simp
                 all_goals (try rfl))
          simp only [Act.put, List.setIfInBounds_toArray, List.set_cons_zero, List.set_cons_succ]
          try go_ints
          first
            | (apply Flow.pass rfl (by rfl))
            | (apply Flow.calmG _ rfl (by rfl)
               · intro w' hb'
                 obtain ⟨hc', hf'⟩ := hb'.rule
                 go_simp
                 all_goals (try rfl))
          simp only [Act.put, List.setIfInBounds_toArray, List.set_cons_zero, List.set_cons_succ]
          try go_ints
          first
            | (apply Flow.pass rfl (by rfl))
            | (apply Flow.calmG _ rfl (by rfl)
               · intro w' hb'
                 obtain ⟨hc', hf'⟩ := hb'.rule
                 go_simp
                 all_goals (try rfl))
          simp only [Act.put, List.setIfInBounds_toArray, List.set_cons_zero, List.set_cons_succ]
          try go_ints
          iterate 1
            apply Flow.calm2 _ _ rfl rfl
            · intro w' hb' K' hK'
              obtain ⟨hc', hf'⟩ := hb'.rule
              go_simp
              try go_ints
              exact hK'
            · intro K' hK'
              simp only [Act.put, List.setIfInBounds_toArray, List.set_cons_zero, List.set_cons_succ]
              exact hK'
          apply Flow.move rfl
          go_wp2_with fail
          refine (when_any _ _ _).mono ?_
          rintro e w' ⟨rfl, rfl⟩
          go_wp2_with fail
          refine ⟨fun _ => (by first | exact HB3 | exact Bl.refl _), ?_⟩
          apply Flow.move rfl
          go_wp2_with fail
          first | refine ⟨fun _ => ?_, ?_⟩ | refine ⟨?_, ?_⟩
          · repeat' (first | exact Bl.refl _ | refine Bl.drewL ?_ | refine Bl.drew ?_ | refine Bl.alloc ?_ _)
          apply Flow.move rfl
          go_wp2_with fail
          refine (first3_any _ _ _ _ _ (Blk.new _ _ _)).mono ?_
          rintro e w' ⟨rfl, rfl⟩
          go_wp2_with fail
          refine ⟨fun _ => (by first | exact HB5 | exact Bl.refl _), ?_⟩
          iterate 1
            apply Flow.asg _ rfl
            · intro K' hK'
              simp only [Act.put, Act.eval, List.setIfInBounds_toArray, List.set_cons_zero, List.set_cons_succ, arr_getD, List.getD_cons_zero, List.getD_cons_succ]
              exact hK'
          refine Flow.done ?_
          have HBL := Lib.hid ((Hb5.out.trans hb7).alloc (.cells #[.int .i64 E, .int .i64 pe, .int .i64 (whenI false 11)] 30))
          clear k1 k3 k6 o1
          go_wp2_with fail
          exact ⟨⟨i + 1, E', hlt, rfl, by go_num, HSt.out, HBL.out⟩, by simp [RowKit.intOf]; omega⟩
        case pos =>
          subst hz
          by_cases hz : pe = 0
          case neg =>
            have hq : (pe == 0) = false := by simp [hz]
            have hf : firstNZ [0, pe, whenI false 11] = E' := by rw [HE'.out]; rw [HPe.out] at hz ⊢; exact smp_b hz
            clear hz
            refine wp_region_flow [(true, 0), (true, 1), (true, 3), (true, 4), (false, 2), (true, 5), (true, 6), (false, 7), (true, 8), (true, 9), (true, 10), (true, 11), (true, 12), (true, 13), (true, 14), (true, 15), (true, 16), (true, 17), (true, 18), (true, 19), (true, 20), (true, 21), (true, 22), (true, 23), (true, 24), (true, 25), (false, 26), (false, 27), (false, 28), (true, 29)] (fun _ => false) (by kernel_rfl) (by kernel_rfl) (by kernel_rfl) (by kernel_rfl) ?_
            iterate 1
              apply Flow.mv _ rfl
              · intro K' hK'
                simp only [Act.put, Act.eval, List.setIfInBounds_toArray, List.set_cons_zero, List.set_cons_succ, arr_getD, List.getD_cons_zero, List.getD_cons_succ]
                exact hK'
            iterate 1
              apply Flow.calm2 _ _ rfl rfl
              · intro w' hb' K' hK'
                obtain ⟨hc', hf'⟩ := hb'.rule
                go_simp
                try go_ints
                exact hK'
              · intro K' hK'
                simp only [Act.put, List.setIfInBounds_toArray, List.set_cons_zero, List.set_cons_succ]
                exact hK'
            iterate 1
              apply Flow.mv _ rfl
              · intro K' hK'
                simp only [Act.put, Act.eval, List.setIfInBounds_toArray, List.set_cons_zero, List.set_cons_succ, arr_getD, List.getD_cons_zero, List.getD_cons_succ]
                exact hK'
            iterate 1
              apply Flow.calm2 _ _ rfl rfl
              · intro w' hb' K' hK'
                obtain ⟨hc', hf'⟩ := hb'.rule
                go_simp
                try go_ints
                exact hK'
              · intro K' hK'
                simp only [Act.put, List.setIfInBounds_toArray, List.set_cons_zero, List.set_cons_succ]
                exact hK'
            apply Flow.move rfl
            go_wp2_with fail
            refine (Hbe.out _).mono ?_
            rintro e w7 ⟨rfl, HB1⟩
            have hb7 : Bl w5 w7 := Bl.ofDrew HB1
            have k1 := (w11.bl (Hb5.out.trans hb7)).all5
            have k3 := (w13.bl (Hb5.out.trans hb7)).all1
            have k6 := (B5.out.bl hb7).all3
            have o2 := hb7.at o1
            go_wp2_with fail
            refine ⟨fun _ => (by first | exact HB1 | exact Bl.refl _), ?_⟩
            iterate 1
              apply Flow.mv _ rfl
              · intro K' hK'
                simp only [Act.put, Act.eval, List.setIfInBounds_toArray, List.set_cons_zero, List.set_cons_succ, arr_getD, List.getD_cons_zero, List.getD_cons_succ]
                exact hK'
            first
              | (apply Flow.pass rfl (by rfl))
              | (apply Flow.calmG _ rfl (by rfl)
                 · intro w' hb'
                   obtain ⟨hc', hf'⟩ := hb'.rule
                   go_simp
                   all_goals (try rfl))
            simp only [Act.put, List.setIfInBounds_toArray, List.set_cons_zero, List.set_cons_succ]
            try go_ints
            -- a guarded mover
            apply Flow.move rfl
            go_wp2_with fail
            refine (Hbe.out _).mono ?_
            rintro e w8 ⟨rfl, HB2⟩
            have hb8 : Bl w5 w8 := hb7.trans HB2
            have k1 := (w11.bl (Hb5.out.trans hb8)).all5
            have k3 := (w13.bl (Hb5.out.trans hb8)).all1
            have k6 := (B5.out.bl hb8).all3
            have o3 := hb8.at o1
            go_wp2_with fail
            refine ⟨fun _ => (by first | exact HB2 | exact Bl.refl _), ?_⟩
            first
              | (apply Flow.pass rfl (by rfl))
              | (apply Flow.calmG _ rfl (by rfl)
                 · intro w' hb'
                   obtain ⟨hc', hf'⟩ := hb'.rule
                   go_simp
                   all_goals (try rfl))
            simp only [Act.put, List.setIfInBounds_toArray, List.set_cons_zero, List.set_cons_succ]
            try go_ints
            iterate 1
              apply Flow.calm2 _ _ rfl rfl
              · intro w' hb' K' hK'
                obtain ⟨hc', hf'⟩ := hb'.rule
                go_simp
                try go_ints
                exact hK'
              · intro K' hK'
                simp only [Act.put, List.setIfInBounds_toArray, List.set_cons_zero, List.set_cons_succ]
                exact hK'
            iterate 1
              apply Flow.mv _ rfl
              · intro K' hK'
                simp only [Act.put, Act.eval, List.setIfInBounds_toArray, List.set_cons_zero, List.set_cons_succ, arr_getD, List.getD_cons_zero, List.getD_cons_succ]
                exact hK'
            first
              | (apply Flow.pass rfl (by rfl))
              | (apply Flow.calmG _ rfl (by rfl)
                 · intro w' hb'
                   obtain ⟨hc', hf'⟩ := hb'.rule
                   go_simp
                   all_goals (try rfl))
            simp only [Act.put, List.setIfInBounds_toArray, List.set_cons_zero, List.set_cons_succ]
            try go_ints
            first
              | (apply Flow.pass rfl (by rfl))
              | (apply Flow.calmG _ rfl (by rfl)
                 · intro w' hb'
                   obtain ⟨hc', hf'⟩ := hb'.rule
                   go_simp
                   all_goals (try rfl))
            simp only [Act.put, List.setIfInBounds_toArray, List.set_cons_zero, List.set_cons_succ]
            try go_ints
            first
              | (apply Flow.pass rfl (by rfl))
              | (apply Flow.calmG _ rfl (by rfl)
                 · intro w' hb'
                   obtain ⟨hc', hf'⟩ := hb'.rule
                   go_simp
                   all_goals (try rfl))
            simp only [Act.put, List.setIfInBounds_toArray, List.set_cons_zero, List.set_cons_succ]
            try go_ints
            first
              | (apply Flow.pass rfl (by rfl))
              | (apply Flow.calmG _ rfl (by rfl)
                 · intro w' hb'
                   obtain ⟨hc', hf'⟩ := hb'.rule
                   go_simp
                   all_goals (try rfl))
            simp only [Act.put, List.setIfInBounds_toArray, List.set_cons_zero, List.set_cons_succ]
            try go_ints
            first
              | (apply Flow.pass rfl (by rfl))
              | (apply Flow.calmG _ rfl (by rfl)
                 · intro w' hb'
                   obtain ⟨hc', hf'⟩ := hb'.rule
                   go_simp
                   all_goals (try rfl))
            simp only [Act.put, List.setIfInBounds_toArray, List.set_cons_zero, List.set_cons_succ]
            try go_ints
            first
              | (apply Flow.pass rfl (by rfl))
              | (apply Flow.calmG _ rfl (by rfl)
                 · intro w' hb'
                   obtain ⟨hc', hf'⟩ := hb'.rule
                   go_simp
                   all_goals (try rfl))
            simp only [Act.put, List.setIfInBounds_toArray, List.set_cons_zero, List.set_cons_succ]
            try go_ints
            first
              | (apply Flow.pass rfl (by rfl))
              | (apply Flow.calmG _ rfl (by rfl)
                 · intro w' hb'
                   obtain ⟨hc', hf'⟩ := hb'.rule
                   go_simp
                   all_goals (try rfl))
            simp only [Act.put, List.setIfInBounds_toArray, List.set_cons_zero, List.set_cons_succ]
            try go_ints
            first
              | (apply Flow.pass rfl (by rfl))
              | (apply Flow.calmG _ rfl (by rfl)
                 · intro w' hb'
                   obtain ⟨hc', hf'⟩ := hb'.rule
                   go_simp
                   all_goals (try rfl))
            simp only [Act.put, List.setIfInBounds_toArray, List.set_cons_zero, List.set_cons_succ]
            try go_ints
            first
              | (apply Flow.pass rfl (by rfl))
              | (apply Flow.calmG _ rfl (by rfl)
                 · intro w' hb'
                   obtain ⟨hc', hf'⟩ := hb'.rule
                   go_simp
                   all_goals (try rfl))
            simp only [Act.put, List.setIfInBounds_toArray, List.set_cons_zero, List.set_cons_succ]
            try go_ints
            first
              | (apply Flow.pass rfl (by rfl))
              | (apply Flow.calmG _ rfl (by rfl)
                 · intro w' hb'
                   obtain ⟨hc', hf'⟩ := hb'.rule
                   go_simp
                   all_goals (try rfl))
            simp only [Act.put, List.setIfInBounds_toArray, List.set_cons_zero, List.set_cons_succ]
            try go_ints
            first
              | (apply Flow.pass rfl (by rfl))
              | (apply Flow.calmG _ rfl (by rfl)
                 · intro w' hb'
                   obtain ⟨hc', hf'⟩ := hb'.rule
                   go_simp
                   all_goals (try rfl))
            simp only [Act.put, List.setIfInBounds_toArray, List.set_cons_zero, List.set_cons_succ]
            try go_ints
            first
              | (apply Flow.pass rfl (by rfl))
              | (apply Flow.calmG _ rfl (by rfl)
                 · intro w' hb'
                   obtain ⟨hc', hf'⟩ := hb'.rule
                   go_simp
                   all_goals (try rfl))
            simp only [Act.put, List.setIfInBounds_toArray, List.set_cons_zero, List.set_cons_succ]
            try go_ints
            first
              | (apply Flow.pass rfl (by rfl))
              | (apply Flow.calmG _ rfl (by rfl)
                 · intro w' hb'
                   obtain ⟨hc', hf'⟩ := hb'.rule
                   go_simp
                   all_goals (try rfl))
            simp only [Act.put, List.setIfInBounds_toArray, List.set_cons_zero, List.set_cons_succ]
            try go_ints
            first
              | (apply Flow.pass rfl (by rfl))
              | (apply Flow.calmG _ rfl (by rfl)
                 · intro w' hb'
                   obtain ⟨hc', hf'⟩ := hb'.rule
                   go_simp
                   all_goals (try rfl))
            simp only [Act.put, List.setIfInBounds_toArray, List.set_cons_zero, List.set_cons_succ]
            try go_ints
            iterate 1
              apply Flow.calm2 _ _ rfl rfl
              · intro w' hb' K' hK'
                obtain ⟨hc', hf'⟩ := hb'.rule
                go_simp
                try go_ints
                exact hK'
              · intro K' hK'
                simp only [Act.put, List.setIfInBounds_toArray, List.set_cons_zero, List.set_cons_succ]
                exact hK'
            apply Flow.move rfl
            go_wp2_with fail
            refine (when_any _ _ _).mono ?_
            rintro e w' ⟨rfl, rfl⟩
            go_wp2_with fail
            refine ⟨fun _ => (by first | exact HB3 | exact Bl.refl _), ?_⟩
            apply Flow.move rfl
            go_wp2_with fail
            first | refine ⟨fun _ => ?_, ?_⟩ | refine ⟨?_, ?_⟩
            · repeat' (first | exact Bl.refl _ | refine Bl.drewL ?_ | refine Bl.drew ?_ | refine Bl.alloc ?_ _)
            apply Flow.move rfl
            go_wp2_with fail
            refine (first3_any _ _ _ _ _ (Blk.new _ _ _)).mono ?_
            rintro e w' ⟨rfl, rfl⟩
            go_wp2_with fail
            refine ⟨fun _ => (by first | exact HB5 | exact Bl.refl _), ?_⟩
            iterate 1
              apply Flow.asg _ rfl
              · intro K' hK'
                simp only [Act.put, Act.eval, List.setIfInBounds_toArray, List.set_cons_zero, List.set_cons_succ, arr_getD, List.getD_cons_zero, List.getD_cons_succ]
                exact hK'
            refine Flow.done ?_
            have HBL := Lib.hid ((Hb5.out.trans hb8).alloc (.cells #[.int .i64 0, .int .i64 pe, .int .i64 (whenI false 11)] 30))
            clear k1 k3 k6 o1
            go_wp2_with fail
            exact ⟨⟨i + 1, E', hlt, rfl, by go_num, HSt.out, HBL.out⟩, by simp [RowKit.intOf]; omega⟩
          case pos =>
            subst hz
            have hp0 := HPe.out.symm
            by_cases c1 : p.H = ht
            · have q1 : (p.H != ht) = false := by simp [c1]
              by_cases c2 : p.W = p0.W
              · have q2 : (p.W != p0.W) = false := by simp [c2]
                have hf : firstNZ [0, 0, whenI false 11] = E' := by
                  rw [HE'.out]
                  have h := smp_c (ht := ht) (W0 := p0.W) hp0 (b := false) (by rw [q1, q2]; rfl)
                  rw [hp0] at h
                  exact h
                clear c1 c2 hp0
                refine wp_region_flow [(true, 0), (true, 1), (true, 3), (true, 4), (false, 2), (true, 5), (true, 6), (false, 7), (true, 8), (true, 9), (true, 10), (true, 11), (true, 12), (true, 13), (true, 14), (true, 15), (true, 16), (true, 17), (true, 18), (true, 19), (true, 20), (true, 21), (true, 22), (true, 23), (true, 24), (true, 25), (false, 26), (false, 27), (false, 28), (true, 29)] (fun _ => false) (by kernel_rfl) (by kernel_rfl) (by kernel_rfl) (by kernel_rfl) ?_
                iterate 1
                  apply Flow.mv _ rfl
                  · intro K' hK'
                    simp only [Act.put, Act.eval, List.setIfInBounds_toArray, List.set_cons_zero, List.set_cons_succ, arr_getD, List.getD_cons_zero, List.getD_cons_succ]
                    exact hK'
                iterate 1
                  apply Flow.calm2 _ _ rfl rfl
                  · intro w' hb' K' hK'
                    obtain ⟨hc', hf'⟩ := hb'.rule
                    go_simp
                    try go_ints
                    exact hK'
                  · intro K' hK'
                    simp only [Act.put, List.setIfInBounds_toArray, List.set_cons_zero, List.set_cons_succ]
                    exact hK'
                iterate 1
                  apply Flow.mv _ rfl
                  · intro K' hK'
                    simp only [Act.put, Act.eval, List.setIfInBounds_toArray, List.set_cons_zero, List.set_cons_succ, arr_getD, List.getD_cons_zero, List.getD_cons_succ]
                    exact hK'
                iterate 1
                  apply Flow.calm2 _ _ rfl rfl
                  · intro w' hb' K' hK'
                    obtain ⟨hc', hf'⟩ := hb'.rule
                    go_simp
                    try go_ints
                    exact hK'
                  · intro K' hK'
                    simp only [Act.put, List.setIfInBounds_toArray, List.set_cons_zero, List.set_cons_succ]
                    exact hK'
                apply Flow.move rfl
                go_wp2_with fail
                refine (Hbe.out _).mono ?_
                rintro e w7 ⟨rfl, HB1⟩
                have hb7 : Bl w5 w7 := Bl.ofDrew HB1
                have k1 := (w11.bl (Hb5.out.trans hb7)).all5
                have k3 := (w13.bl (Hb5.out.trans hb7)).all1
                have k6 := (B5.out.bl hb7).all3
                have o2 := hb7.at o1
                go_wp2_with fail
                refine ⟨fun _ => (by first | exact HB1 | exact Bl.refl _), ?_⟩
                iterate 1
                  apply Flow.mv _ rfl
                  · intro K' hK'
                    simp only [Act.put, Act.eval, List.setIfInBounds_toArray, List.set_cons_zero, List.set_cons_succ, arr_getD, List.getD_cons_zero, List.getD_cons_succ]
                    exact hK'
                first
                  | (apply Flow.pass rfl (by rfl))
                  | (apply Flow.calmG _ rfl (by rfl)
                     · intro w' hb'
                       obtain ⟨hc', hf'⟩ := hb'.rule
                       go_simp
                       all_goals (try rfl))
                simp only [Act.put, List.setIfInBounds_toArray, List.set_cons_zero, List.set_cons_succ]
                try go_ints
                -- a guarded mover
                apply Flow.move rfl
                go_wp2_with fail
                refine (Hbe.out _).mono ?_
                rintro e w8 ⟨rfl, HB2⟩
                have hb8 : Bl w5 w8 := hb7.trans HB2
                have k1 := (w11.bl (Hb5.out.trans hb8)).all5
                have k3 := (w13.bl (Hb5.out.trans hb8)).all1
                have k6 := (B5.out.bl hb8).all3
                have o3 := hb8.at o1
                go_wp2_with fail
                refine ⟨fun _ => (by first | exact HB2 | exact Bl.refl _), ?_⟩
                first
                  | (apply Flow.pass rfl (by rfl))
                  | (apply Flow.calmG _ rfl (by rfl)
                     · intro w' hb'
                       obtain ⟨hc', hf'⟩ := hb'.rule
                       go_simp
                       all_goals (try rfl))
                simp only [Act.put, List.setIfInBounds_toArray, List.set_cons_zero, List.set_cons_succ]
                try go_ints
                iterate 1
                  apply Flow.calm2 _ _ rfl rfl
                  · intro w' hb' K' hK'
                    obtain ⟨hc', hf'⟩ := hb'.rule
                    go_simp
                    try go_ints
                    exact hK'
                  · intro K' hK'
                    simp only [Act.put, List.setIfInBounds_toArray, List.set_cons_zero, List.set_cons_succ]
                    exact hK'
                iterate 1
                  apply Flow.mv _ rfl
                  · intro K' hK'
                    simp only [Act.put, Act.eval, List.setIfInBounds_toArray, List.set_cons_zero, List.set_cons_succ, arr_getD, List.getD_cons_zero, List.getD_cons_succ]
                    exact hK'
                first
                  | (apply Flow.pass rfl (by rfl))
                  | (apply Flow.calmG _ rfl (by rfl)
                     · intro w' hb'
                       obtain ⟨hc', hf'⟩ := hb'.rule
                       go_simp
                       all_goals (try rfl))
                simp only [Act.put, List.setIfInBounds_toArray, List.set_cons_zero, List.set_cons_succ]
                try go_ints
                first
                  | (apply Flow.pass rfl (by rfl))
                  | (apply Flow.calmG _ rfl (by rfl)
                     · intro w' hb'
                       obtain ⟨hc', hf'⟩ := hb'.rule
                       go_simp
                       all_goals (try rfl))
                simp only [Act.put, List.setIfInBounds_toArray, List.set_cons_zero, List.set_cons_succ]
                try go_ints
                first
                  | (apply Flow.pass rfl (by rfl))
                  | (apply Flow.calmG _ rfl (by rfl)
                     · intro w' hb'
                       obtain ⟨hc', hf'⟩ := hb'.rule
                       go_simp
                       all_goals (try rfl))
                simp only [Act.put, List.setIfInBounds_toArray, List.set_cons_zero, List.set_cons_succ]
                try go_ints
                first
                  | (apply Flow.pass rfl (by rfl))
                  | (apply Flow.calmG _ rfl (by rfl)
                     · intro w' hb'
                       obtain ⟨hc', hf'⟩ := hb'.rule
                       go_simp
                       all_goals (try rfl))
                simp only [Act.put, List.setIfInBounds_toArray, List.set_cons_zero, List.set_cons_succ]
                try go_ints
                first
                  | (apply Flow.pass rfl (by rfl))
                  | (apply Flow.calmG _ rfl (by rfl)
                     · intro w' hb'
                       obtain ⟨hc', hf'⟩ := hb'.rule
                       go_simp
                       all_goals (try rfl))
                simp only [Act.put, List.setIfInBounds_toArray, List.set_cons_zero, List.set_cons_succ]
                try go_ints
                first
                  | (apply Flow.pass rfl (by rfl))
                  | (apply Flow.calmG _ rfl (by rfl)
                     · intro w' hb'
                       obtain ⟨hc', hf'⟩ := hb'.rule
                       go_simp
                       all_goals (try rfl))
                simp only [Act.put, List.setIfInBounds_toArray, List.set_cons_zero, List.set_cons_succ]
                try go_ints
                first
                  | (apply Flow.pass rfl (by rfl))
                  | (apply Flow.calmG _ rfl (by rfl)
                     · intro w' hb'
                       obtain ⟨hc', hf'⟩ := hb'.rule
                       go_simp
                       all_goals (try rfl))
                simp only [Act.put, List.setIfInBounds_toArray, List.set_cons_zero, List.set_cons_succ]
                try go_ints
                first
                  | (apply Flow.pass rfl (by rfl))
                  | (apply Flow.calmG _ rfl (by rfl)
                     · intro w' hb'
                       obtain ⟨hc', hf'⟩ := hb'.rule
                       go_simp
                       all_goals (try rfl))
                simp only [Act.put, List.setIfInBounds_toArray, List.set_cons_zero, List.set_cons_succ]
                try go_ints
                first
                  | (apply Flow.pass rfl (by rfl))
                  | (apply Flow.calmG _ rfl (by rfl)
                     · intro w' hb'
                       obtain ⟨hc', hf'⟩ := hb'.rule
                       go_simp
                       all_goals (try rfl))
                simp only [Act.put, List.setIfInBounds_toArray, List.set_cons_zero, List.set_cons_succ]
                try go_ints
                first
                  | (apply Flow.pass rfl (by rfl))
                  | (apply Flow.calmG _ rfl (by rfl)
                     · intro w' hb'
                       obtain ⟨hc', hf'⟩ := hb'.rule
                       go_simp
                       all_goals (try rfl))
                simp only [Act.put, List.setIfInBounds_toArray, List.set_cons_zero, List.set_cons_succ]
                try go_ints
                first
                  | (apply Flow.pass rfl (by rfl))
                  | (apply Flow.calmG _ rfl (by rfl)
                     · intro w' hb'
                       obtain ⟨hc', hf'⟩ := hb'.rule
                       go_simp
                       all_goals (try rfl))
                simp only [Act.put, List.setIfInBounds_toArray, List.set_cons_zero, List.set_cons_succ]
                try go_ints
                first
                  | (apply Flow.pass rfl (by rfl))
                  | (apply Flow.calmG _ rfl (by rfl)
                     · intro w' hb'
                       obtain ⟨hc', hf'⟩ := hb'.rule
                       go_simp
                       all_goals (try rfl))
                simp only [Act.put, List.setIfInBounds_toArray, List.set_cons_zero, List.set_cons_succ]
                try go_ints
                first
                  | (apply Flow.pass rfl (by rfl))
                  | (apply Flow.calmG _ rfl (by rfl)
                     · intro w' hb'
                       obtain ⟨hc', hf'⟩ := hb'.rule
                       go_simp
                       all_goals (try rfl))
                simp only [Act.put, List.setIfInBounds_toArray, List.set_cons_zero, List.set_cons_succ]
                try go_ints
                first
                  | (apply Flow.pass rfl (by rfl))
                  | (apply Flow.calmG _ rfl (by rfl)
                     · intro w' hb'
                       obtain ⟨hc', hf'⟩ := hb'.rule
                       go_simp
                       all_goals (try rfl))
                simp only [Act.put, List.setIfInBounds_toArray, List.set_cons_zero, List.set_cons_succ]
                try go_ints
                iterate 1
                  apply Flow.calm2 _ _ rfl rfl
                  · intro w' hb' K' hK'
                    obtain ⟨hc', hf'⟩ := hb'.rule
                    go_simp
                    try go_ints
                    exact hK'
                  · intro K' hK'
                    simp only [Act.put, List.setIfInBounds_toArray, List.set_cons_zero, List.set_cons_succ]
                    exact hK'
                apply Flow.move rfl
                go_wp2_with fail
                refine (when_any _ _ _).mono ?_
                rintro e w' ⟨rfl, rfl⟩
                go_wp2_with fail
                refine ⟨fun _ => (by first | exact HB3 | exact Bl.refl _), ?_⟩
                apply Flow.move rfl
                go_wp2_with fail
                first | refine ⟨fun _ => ?_, ?_⟩ | refine ⟨?_, ?_⟩
                · repeat' (first | exact Bl.refl _ | refine Bl.drewL ?_ | refine Bl.drew ?_ | refine Bl.alloc ?_ _)
                apply Flow.move rfl
                go_wp2_with fail
                refine (first3_any _ _ _ _ _ (Blk.new _ _ _)).mono ?_
                rintro e w' ⟨rfl, rfl⟩
                go_wp2_with fail
                refine ⟨fun _ => (by first | exact HB5 | exact Bl.refl _), ?_⟩
                iterate 1
                  apply Flow.asg _ rfl
                  · intro K' hK'
                    simp only [Act.put, Act.eval, List.setIfInBounds_toArray, List.set_cons_zero, List.set_cons_succ, arr_getD, List.getD_cons_zero, List.getD_cons_succ]
                    exact hK'
                refine Flow.done ?_
                have HBL := Lib.hid ((Hb5.out.trans hb8).alloc (.cells #[.int .i64 0, .int .i64 0, .int .i64 (whenI false 11)] 30))
                clear k1 k3 k6 o1
                go_wp2_with fail
                exact ⟨⟨i + 1, E', hlt, rfl, by go_num, HSt.out, HBL.out⟩, by simp [RowKit.intOf]; omega⟩
              · have q2 : (p.W != p0.W) = true := by simp [c2]
                have hf : firstNZ [0, 0, whenI true 11] = E' := by
                  rw [HE'.out]
                  have h := smp_c (ht := ht) (W0 := p0.W) hp0 (b := true) (by rw [q1, q2]; rfl)
                  rw [hp0] at h
                  exact h
                clear c1 c2 hp0
                refine wp_region_flow [(true, 0), (true, 1), (true, 3), (true, 4), (false, 2), (true, 5), (true, 6), (false, 7), (true, 8), (true, 9), (true, 10), (true, 11), (true, 12), (true, 13), (true, 14), (true, 15), (true, 16), (true, 17), (true, 18), (true, 19), (true, 20), (true, 21), (true, 22), (true, 23), (true, 24), (true, 25), (false, 26), (false, 27), (false, 28), (true, 29)] (fun _ => false) (by kernel_rfl) (by kernel_rfl) (by kernel_rfl) (by kernel_rfl) ?_
                iterate 1
                  apply Flow.mv _ rfl
                  · intro K' hK'
                    simp only [Act.put, Act.eval, List.setIfInBounds_toArray, List.set_cons_zero, List.set_cons_succ, arr_getD, List.getD_cons_zero, List.getD_cons_succ]
                    exact hK'
                iterate 1
                  apply Flow.calm2 _ _ rfl rfl
                  · intro w' hb' K' hK'
                    obtain ⟨hc', hf'⟩ := hb'.rule
                    go_simp
                    try go_ints
                    exact hK'
                  · intro K' hK'
                    simp only [Act.put, List.setIfInBounds_toArray, List.set_cons_zero, List.set_cons_succ]
                    exact hK'
                iterate 1
                  apply Flow.mv _ rfl
                  · intro K' hK'
                    simp only [Act.put, Act.eval, List.setIfInBounds_toArray, List.set_cons_zero, List.set_cons_succ, arr_getD, List.getD_cons_zero, List.getD_cons_succ]
                    exact hK'
                iterate 1
                  apply Flow.calm2 _ _ rfl rfl
                  · intro w' hb' K' hK'
                    obtain ⟨hc', hf'⟩ := hb'.rule
                    go_simp
                    try go_ints
                    exact hK'
                  · intro K' hK'
                    simp only [Act.put, List.setIfInBounds_toArray, List.set_cons_zero, List.set_cons_succ]
                    exact hK'
                apply Flow.move rfl
                go_wp2_with fail
                refine (Hbe.out _).mono ?_
                rintro e w7 ⟨rfl, HB1⟩
                have hb7 : Bl w5 w7 := Bl.ofDrew HB1
                have k1 := (w11.bl (Hb5.out.trans hb7)).all5
                have k3 := (w13.bl (Hb5.out.trans hb7)).all1
                have k6 := (B5.out.bl hb7).all3
                have o2 := hb7.at o1
                go_wp2_with fail
                refine ⟨fun _ => (by first | exact HB1 | exact Bl.refl _), ?_⟩
                iterate 1
                  apply Flow.mv _ rfl
                  · intro K' hK'
                    simp only [Act.put, Act.eval, List.setIfInBounds_toArray, List.set_cons_zero, List.set_cons_succ, arr_getD, List.getD_cons_zero, List.getD_cons_succ]
                    exact hK'
                first
                  | (apply Flow.pass rfl (by rfl))
                  | (apply Flow.calmG _ rfl (by rfl)
                     · intro w' hb'
                       obtain ⟨hc', hf'⟩ := hb'.rule
                       go_simp
                       all_goals (try rfl))
                simp only [Act.put, List.setIfInBounds_toArray, List.set_cons_zero, List.set_cons_succ]
                try go_ints
                -- a guarded mover
                apply Flow.move rfl
                go_wp2_with fail
                refine (Hbe.out _).mono ?_
                rintro e w8 ⟨rfl, HB2⟩
                have hb8 : Bl w5 w8 := hb7.trans HB2
                have k1 := (w11.bl (Hb5.out.trans hb8)).all5
                have k3 := (w13.bl (Hb5.out.trans hb8)).all1
                have k6 := (B5.out.bl hb8).all3
                have o3 := hb8.at o1
                go_wp2_with fail
                refine ⟨fun _ => (by first | exact HB2 | exact Bl.refl _), ?_⟩
                first
                  | (apply Flow.pass rfl (by rfl))
                  | (apply Flow.calmG _ rfl (by rfl)
                     · intro w' hb'
                       obtain ⟨hc', hf'⟩ := hb'.rule
                       go_simp
                       all_goals (try rfl))
                simp only [Act.put, List.setIfInBounds_toArray, List.set_cons_zero, List.set_cons_succ]
                try go_ints
                iterate 1
                  apply Flow.calm2 _ _ rfl rfl
                  · intro w' hb' K' hK'
                    obtain ⟨hc', hf'⟩ := hb'.rule
                    go_simp
                    try go_ints
                    exact hK'
                  · intro K' hK'
                    simp only [Act.put, List.setIfInBounds_toArray, List.set_cons_zero, List.set_cons_succ]
                    exact hK'
                iterate 1
                  apply Flow.mv _ rfl
                  · intro K' hK'
                    simp only [Act.put, Act.eval, List.setIfInBounds_toArray, List.set_cons_zero, List.set_cons_succ, arr_getD, List.getD_cons_zero, List.getD_cons_succ]
                    exact hK'
                first
                  | (apply Flow.pass rfl (by rfl))
                  | (apply Flow.calmG _ rfl (by rfl)
                     · intro w' hb'
                       obtain ⟨hc', hf'⟩ := hb'.rule
                       go_simp
                       all_goals (try rfl))
                simp only [Act.put, List.setIfInBounds_toArray, List.set_cons_zero, List.set_cons_succ]
                try go_ints
                first
                  | (apply Flow.pass rfl (by rfl))
                  | (apply Flow.calmG _ rfl (by rfl)
                     · intro w' hb'
                       obtain ⟨hc', hf'⟩ := hb'.rule
                       go_simp
                       all_goals (try rfl))
                simp only [Act.put, List.setIfInBounds_toArray, List.set_cons_zero, List.set_cons_succ]
                try go_ints
                first
                  | (apply Flow.pass rfl (by rfl))
                  | (apply Flow.calmG _ rfl (by rfl)
                     · intro w' hb'
                       obtain ⟨hc', hf'⟩ := hb'.rule
                       go_simp
                       all_goals (try rfl))
                simp only [Act.put, List.setIfInBounds_toArray, List.set_cons_zero, List.set_cons_succ]
                try go_ints
                first
                  | (apply Flow.pass rfl (by rfl))
                  | (apply Flow.calmG _ rfl (by rfl)
                     · intro w' hb'
                       obtain ⟨hc', hf'⟩ := hb'.rule
                       go_simp
                       all_goals (try rfl))
                simp only [Act.put, List.setIfInBounds_toArray, List.set_cons_zero, List.set_cons_succ]
                try go_ints
                first
                  | (apply Flow.pass rfl (by rfl))
                  | (apply Flow.calmG _ rfl (by rfl)
                     · intro w' hb'
                       obtain ⟨hc', hf'⟩ := hb'.rule
                       go_simp
                       all_goals (try rfl))
                simp only [Act.put, List.setIfInBounds_toArray, List.set_cons_zero, List.set_cons_succ]
                try go_ints
                first
                  | (apply Flow.pass rfl (by rfl))
                  | (apply Flow.calmG _ rfl (by rfl)
                     · intro w' hb'
                       obtain ⟨hc', hf'⟩ := hb'.rule
                       go_simp
                       all_goals (try rfl))
                simp only [Act.put, List.setIfInBounds_toArray, List.set_cons_zero, List.set_cons_succ]
                try go_ints
                first
                  | (apply Flow.pass rfl (by rfl))
                  | (apply Flow.calmG _ rfl (by rfl)
                     · intro w' hb'
                       obtain ⟨hc', hf'⟩ := hb'.rule
                       go_simp
                       all_goals (try rfl))
                simp only [Act.put, List.setIfInBounds_toArray, List.set_cons_zero, List.set_cons_succ]
                try go_ints
                first
                  | (apply Flow.pass rfl (by rfl))
                  | (apply Flow.calmG _ rfl (by rfl)
                     · intro w' hb'
                       obtain ⟨hc', hf'⟩ := hb'.rule
                       go_simp
                       all_goals (try rfl))
                simp only [Act.put, List.setIfInBounds_toArray, List.set_cons_zero, List.set_cons_succ]
                try go_ints
                first
                  | (apply Flow.pass rfl (by rfl))
                  | (apply Flow.calmG _ rfl (by rfl)
                     · intro w' hb'
                       obtain ⟨hc', hf'⟩ := hb'.rule
                       go_simp
                       all_goals (try rfl))
                simp only [Act.put, List.setIfInBounds_toArray, List.set_cons_zero, List.set_cons_succ]
                try go_ints
                first
                  | (apply Flow.pass rfl (by rfl))
                  | (apply Flow.calmG _ rfl (by rfl)
                     · intro w' hb'
                       obtain ⟨hc', hf'⟩ := hb'.rule
                       go_simp
                       all_goals (try rfl))
                simp only [Act.put, List.setIfInBounds_toArray, List.set_cons_zero, List.set_cons_succ]
                try go_ints
                first
                  | (apply Flow.pass rfl (by rfl))
                  | (apply Flow.calmG _ rfl (by rfl)
                     · intro w' hb'
                       obtain ⟨hc', hf'⟩ := hb'.rule
                       go_simp
                       all_goals (try rfl))
                simp only [Act.put, List.setIfInBounds_toArray, List.set_cons_zero, List.set_cons_succ]
                try go_ints
                first
                  | (apply Flow.pass rfl (by rfl))
                  | (apply Flow.calmG _ rfl (by rfl)
                     · intro w' hb'
                       obtain ⟨hc', hf'⟩ := hb'.rule
                       go_simp
                       all_goals (try rfl))
                simp only [Act.put, List.setIfInBounds_toArray, List.set_cons_zero, List.set_cons_succ]
                try go_ints
                first
                  | (apply Flow.pass rfl (by rfl))
                  | (apply Flow.calmG _ rfl (by rfl)
                     · intro w' hb'
                       obtain ⟨hc', hf'⟩ := hb'.rule
                       go_simp
                       all_goals (try rfl))
                simp only [Act.put, List.setIfInBounds_toArray, List.set_cons_zero, List.set_cons_succ]
                try go_ints
                first
                  | (apply Flow.pass rfl (by rfl))
                  | (apply Flow.calmG _ rfl (by rfl)
                     · intro w' hb'
                       obtain ⟨hc', hf'⟩ := hb'.rule
                       go_simp
                       all_goals (try rfl))
                simp only [Act.put, List.setIfInBounds_toArray, List.set_cons_zero, List.set_cons_succ]
                try go_ints
                iterate 1
                  apply Flow.calm2 _ _ rfl rfl
                  · intro w' hb' K' hK'
                    obtain ⟨hc', hf'⟩ := hb'.rule
                    go_simp
                    try go_ints
                    exact hK'
                  · intro K' hK'
                    simp only [Act.put, List.setIfInBounds_toArray, List.set_cons_zero, List.set_cons_succ]
                    exact hK'
                apply Flow.move rfl
                go_wp2_with fail
                refine (when_any _ _ _).mono ?_
                rintro e w' ⟨rfl, rfl⟩
                go_wp2_with fail
                refine ⟨fun _ => (by first | exact HB3 | exact Bl.refl _), ?_⟩
                apply Flow.move rfl
                go_wp2_with fail
                first | refine ⟨fun _ => ?_, ?_⟩ | refine ⟨?_, ?_⟩
                · repeat' (first | exact Bl.refl _ | refine Bl.drewL ?_ | refine Bl.drew ?_ | refine Bl.alloc ?_ _)
                apply Flow.move rfl
                go_wp2_with fail
                refine (first3_any _ _ _ _ _ (Blk.new _ _ _)).mono ?_
                rintro e w' ⟨rfl, rfl⟩
                go_wp2_with fail
                refine ⟨fun _ => (by first | exact HB5 | exact Bl.refl _), ?_⟩
                iterate 1
                  apply Flow.asg _ rfl
                  · intro K' hK'
                    simp only [Act.put, Act.eval, List.setIfInBounds_toArray, List.set_cons_zero, List.set_cons_succ, arr_getD, List.getD_cons_zero, List.getD_cons_succ]
                    exact hK'
                refine Flow.done ?_
                have HBL := Lib.hid ((Hb5.out.trans hb8).alloc (.cells #[.int .i64 0, .int .i64 0, .int .i64 (whenI true 11)] 30))
                clear k1 k3 k6 o1
                go_wp2_with fail
                exact ⟨⟨i + 1, E', hlt, rfl, by go_num, HSt.out, HBL.out⟩, by simp [RowKit.intOf]; omega⟩
            · have q1 : (p.H != ht) = true := by simp [c1]
              have hf : firstNZ [0, 0, whenI true 11] = E' := by
                rw [HE'.out]
                have h := smp_c (ht := ht) (W0 := p0.W) hp0 (b := true) (by rw [q1]; rfl)
                rw [hp0] at h
                exact h
              clear c1 hp0
              refine wp_region_flow [(true, 0), (true, 1), (true, 3), (true, 4), (false, 2), (true, 5), (true, 6), (false, 7), (true, 8), (true, 9), (true, 10), (true, 11), (true, 12), (true, 13), (true, 14), (true, 15), (true, 16), (true, 17), (true, 18), (true, 19), (true, 20), (true, 21), (true, 22), (true, 23), (true, 24), (true, 25), (false, 26), (false, 27), (false, 28), (true, 29)] (fun _ => false) (by kernel_rfl) (by kernel_rfl) (by kernel_rfl) (by kernel_rfl) ?_
              iterate 1
                apply Flow.mv _ rfl
                · intro K' hK'
                  simp only [Act.put, Act.eval, List.setIfInBounds_toArray, List.set_cons_zero, List.set_cons_succ, arr_getD, List.getD_cons_zero, List.getD_cons_succ]
                  exact hK'
              iterate 1
                apply Flow.calm2 _ _ rfl rfl
                · intro w' hb' K' hK'
                  obtain ⟨hc', hf'⟩ := hb'.rule
                  go_simp
                  try go_ints
                  exact hK'
                · intro K' hK'
                  simp only [Act.put, List.setIfInBounds_toArray, List.set_cons_zero, List.set_cons_succ]
                  exact hK'
              iterate 1
                apply Flow.mv _ rfl
                · intro K' hK'
                  simp only [Act.put, Act.eval, List.setIfInBounds_toArray, List.set_cons_zero, List.set_cons_succ, arr_getD, List.getD_cons_zero, List.getD_cons_succ]
                  exact hK'
              iterate 1
                apply Flow.calm2 _ _ rfl rfl
                · intro w' hb' K' hK'
                  obtain ⟨hc', hf'⟩ := hb'.rule
                  go_simp
                  try go_ints
                  exact hK'
                · intro K' hK'
                  simp only [Act.put, List.setIfInBounds_toArray, List.set_cons_zero, List.set_cons_succ]
                  exact hK'
              apply Flow.move rfl
              go_wp2_with fail
              refine (Hbe.out _).mono ?_
              rintro e w7 ⟨rfl, HB1⟩
              have hb7 : Bl w5 w7 := Bl.ofDrew HB1
              have k1 := (w11.bl (Hb5.out.trans hb7)).all5
              have k3 := (w13.bl (Hb5.out.trans hb7)).all1
              have k6 := (B5.out.bl hb7).all3
              have o2 := hb7.at o1
              go_wp2_with fail
              refine ⟨fun _ => (by first | exact HB1 | exact Bl.refl _), ?_⟩
              iterate 1
                apply Flow.mv _ rfl
                · intro K' hK'
                  simp only [Act.put, Act.eval, List.setIfInBounds_toArray, List.set_cons_zero, List.set_cons_succ, arr_getD, List.getD_cons_zero, List.getD_cons_succ]
                  exact hK'
              first
                | (apply Flow.pass rfl (by rfl))
                | (apply Flow.calmG _ rfl (by rfl)
                   · intro w' hb'
                     obtain ⟨hc', hf'⟩ := hb'.rule
                     go_simp
                     all_goals (try rfl))
              simp only [Act.put, List.setIfInBounds_toArray, List.set_cons_zero, List.set_cons_succ]
              try go_ints
              -- a guarded mover
              apply Flow.move rfl
              go_wp2_with fail
              refine (Hbe.out _).mono ?_
              rintro e w8 ⟨rfl, HB2⟩
              have hb8 : Bl w5 w8 := hb7.trans HB2
              have k1 := (w11.bl (Hb5.out.trans hb8)).all5
              have k3 := (w13.bl (Hb5.out.trans hb8)).all1
              have k6 := (B5.out.bl hb8).all3
              have o3 := hb8.at o1
              go_wp2_with fail
              refine ⟨fun _ => (by first | exact HB2 | exact Bl.refl _), ?_⟩
              first
                | (apply Flow.pass rfl (by rfl))
                | (apply Flow.calmG _ rfl (by rfl)
                   · intro w' hb'
                     obtain ⟨hc', hf'⟩ := hb'.rule
                     go_simp
                     all_goals (try rfl))
              simp only [Act.put, List.setIfInBounds_toArray, List.set_cons_zero, List.set_cons_succ]
              try go_ints
              iterate 1
                apply Flow.calm2 _ _ rfl rfl
                · intro w' hb' K' hK'
                  obtain ⟨hc', hf'⟩ := hb'.rule
                  go_simp
                  try go_ints
                  exact hK'
                · intro K' hK'
                  simp only [Act.put, List.setIfInBounds_toArray, List.set_cons_zero, List.set_cons_succ]
                  exact hK'
              iterate 1
                apply Flow.mv _ rfl
                · intro K' hK'
                  simp only [Act.put, Act.eval, List.setIfInBounds_toArray, List.set_cons_zero, List.set_cons_succ, arr_getD, List.getD_cons_zero, List.getD_cons_succ]
                  exact hK'
              first
                | (apply Flow.pass rfl (by rfl))
                | (apply Flow.calmG _ rfl (by rfl)
                   · intro w' hb'
                     obtain ⟨hc', hf'⟩ := hb'.rule
                     go_simp
                     all_goals (try rfl))
              simp only [Act.put, List.setIfInBounds_toArray, List.set_cons_zero, List.set_cons_succ]
              try go_ints
              first
                | (apply Flow.pass rfl (by rfl))
                | (apply Flow.calmG _ rfl (by rfl)
                   · intro w' hb'
                     obtain ⟨hc', hf'⟩ := hb'.rule
                     go_simp
                     all_goals (try rfl))
              simp only [Act.put, List.setIfInBounds_toArray, List.set_cons_zero, List.set_cons_succ]
              try go_ints
              first
                | (apply Flow.pass rfl (by rfl))
                | (apply Flow.calmG _ rfl (by rfl)
                   · intro w' hb'
                     obtain ⟨hc', hf'⟩ := hb'.rule
                     go_simp
                     all_goals (try rfl))
              simp only [Act.put, List.setIfInBounds_toArray, List.set_cons_zero, List.set_cons_succ]
              try go_ints
              first
                | (apply Flow.pass rfl (by rfl))
                | (apply Flow.calmG _ rfl (by rfl)
                   · intro w' hb'
                     obtain ⟨hc', hf'⟩ := hb'.rule
                     go_simp
                     all_goals (try rfl))
              simp only [Act.put, List.setIfInBounds_toArray, List.set_cons_zero, List.set_cons_succ]
              try go_ints
              first
                | (apply Flow.pass rfl (by rfl))
                | (apply Flow.calmG _ rfl (by rfl)
                   · intro w' hb'
                     obtain ⟨hc', hf'⟩ := hb'.rule
                     go_simp
                     all_goals (try rfl))
              simp only [Act.put, List.setIfInBounds_toArray, List.set_cons_zero, List.set_cons_succ]
              try go_ints
              first
                | (apply Flow.pass rfl (by rfl))
                | (apply Flow.calmG _ rfl (by rfl)
                   · intro w' hb'
                     obtain ⟨hc', hf'⟩ := hb'.rule
                     go_simp
                     all_goals (try rfl))
              simp only [Act.put, List.setIfInBounds_toArray, List.set_cons_zero, List.set_cons_succ]
              try go_ints
              first
                | (apply Flow.pass rfl (by rfl))
                | (apply Flow.calmG _ rfl (by rfl)
                   · intro w' hb'
                     obtain ⟨hc', hf'⟩ := hb'.rule
                     go_simp
                     all_goals (try rfl))
              simp only [Act.put, List.setIfInBounds_toArray, List.set_cons_zero, List.set_cons_succ]
              try go_ints
              first
                | (apply Flow.pass rfl (by rfl))
                | (apply Flow.calmG _ rfl (by rfl)
                   · intro w' hb'
                     obtain ⟨hc', hf'⟩ := hb'.rule
                     go_simp
                     all_goals (try rfl))
              simp only [Act.put, List.setIfInBounds_toArray, List.set_cons_zero, List.set_cons_succ]
              try go_ints
              first
                | (apply Flow.pass rfl (by rfl))
                | (apply Flow.calmG _ rfl (by rfl)
                   · intro w' hb'
                     obtain ⟨hc', hf'⟩ := hb'.rule
                     go_simp
                     all_goals (try rfl))
              simp only [Act.put, List.setIfInBounds_toArray, List.set_cons_zero, List.set_cons_succ]
              try go_ints
              first
                | (apply Flow.pass rfl (by rfl))
                | (apply Flow.calmG _ rfl (by rfl)
                   · intro w' hb'
                     obtain ⟨hc', hf'⟩ := hb'.rule
                     go_simp
                     all_goals (try rfl))
              simp only [Act.put, List.setIfInBounds_toArray, List.set_cons_zero, List.set_cons_succ]
              try go_ints
              first
                | (apply Flow.pass rfl (by rfl))
                | (apply Flow.calmG _ rfl (by rfl)
                   · intro w' hb'
                     obtain ⟨hc', hf'⟩ := hb'.rule
                     go_simp
                     all_goals (try rfl))
              simp only [Act.put, List.setIfInBounds_toArray, List.set_cons_zero, List.set_cons_succ]
              try go_ints
              first
                | (apply Flow.pass rfl (by rfl))
                | (apply Flow.calmG _ rfl (by rfl)
                   · intro w' hb'
                     obtain ⟨hc', hf'⟩ := hb'.rule
                     go_simp
                     all_goals (try rfl))
              simp only [Act.put, List.setIfInBounds_toArray, List.set_cons_zero, List.set_cons_succ]
              try go_ints
              first
                | (apply Flow.pass rfl (by rfl))
                | (apply Flow.calmG _ rfl (by rfl)
                   · intro w' hb'
                     obtain ⟨hc', hf'⟩ := hb'.rule
                     go_simp
                     all_goals (try rfl))
              simp only [Act.put, List.setIfInBounds_toArray, List.set_cons_zero, List.set_cons_succ]
              try go_ints
              first
                | (apply Flow.pass rfl (by rfl))
                | (apply Flow.calmG _ rfl (by rfl)
                   · intro w' hb'
                     obtain ⟨hc', hf'⟩ := hb'.rule
                     go_simp
                     all_goals (try rfl))
              simp only [Act.put, List.setIfInBounds_toArray, List.set_cons_zero, List.set_cons_succ]
              try go_ints
              iterate 1
                apply Flow.calm2 _ _ rfl rfl
                · intro w' hb' K' hK'
                  obtain ⟨hc', hf'⟩ := hb'.rule
                  go_simp
                  try go_ints
                  exact hK'
                · intro K' hK'
                  simp only [Act.put, List.setIfInBounds_toArray, List.set_cons_zero, List.set_cons_succ]
                  exact hK'
              apply Flow.move rfl
              go_wp2_with fail
              refine (when_any _ _ _).mono ?_
              rintro e w' ⟨rfl, rfl⟩
              go_wp2_with fail
              refine ⟨fun _ => (by first | exact HB3 | exact Bl.refl _), ?_⟩
              apply Flow.move rfl
              go_wp2_with fail
              first | refine ⟨fun _ => ?_, ?_⟩ | refine ⟨?_, ?_⟩
              · repeat' (first | exact Bl.refl _ | refine Bl.drewL ?_ | refine Bl.drew ?_ | refine Bl.alloc ?_ _)
              apply Flow.move rfl
              go_wp2_with fail
              refine (first3_any _ _ _ _ _ (Blk.new _ _ _)).mono ?_
              rintro e w' ⟨rfl, rfl⟩
              go_wp2_with fail
              refine ⟨fun _ => (by first | exact HB5 | exact Bl.refl _), ?_⟩
              iterate 1
                apply Flow.asg _ rfl
                · intro K' hK'
                  simp only [Act.put, Act.eval, List.setIfInBounds_toArray, List.set_cons_zero, List.set_cons_succ, arr_getD, List.getD_cons_zero, List.getD_cons_succ]
                  exact hK'
              refine Flow.done ?_
              have HBL := Lib.hid ((Hb5.out.trans hb8).alloc (.cells #[.int .i64 0, .int .i64 0, .int .i64 (whenI true 11)] 30))
              clear k1 k3 k6 o1
              go_wp2_with fail
              exact ⟨⟨i + 1, E', hlt, rfl, by go_num, HSt.out, HBL.out⟩, by simp [RowKit.intOf]; omega⟩
      · obtain rfl : i = ps.length := by omega
        have hEq : E = LE := by have h := HE.out; rw [List.drop_length, leftErr_end] at h; exact h
        subst hEq
        clear HE
        by_cases hz : E = 0
        case neg =>
          have hq : (E == 0) = false := by simp [hz]
          have HNZ := Lib.hid hz
          clear hz
          have k4 := (w14.bl hbr).all5
          go_wp2_with fail
          refine bodyPost_ret (v := .tuple #[.agg #[.string ⟨#[]⟩, .int .i64 0, .int .i64 0, .int .i64 0, .slice none 0 0], .int .i64 E]) (by simp [results, Tryd.results21, go_sem, k4]) rfl ⟨[], 0, 0, 0, none, 0, 0, E, rfl, ?_, ?_⟩
          · exact ⟨fun _ => ⟨by rw [← HFe.out]; exact HLE.out, rfl, rfl, rfl, rfl, rfl, rfl⟩, fun h => absurd (HLE.out.trans (by rw [HFe.out]; exact h)) HNZ.out⟩
          · exact (((((w1b.trans hbr).setCell (by simp; omega) _).setCell (by simp; omega) _).setCell (by simp; omega) _).setCell (by simp; omega) _).setCell (by simp; omega) _
        case pos =>
          subst hz
          obtain ⟨hfe0, htx, hn1, hn100, hse⟩ := learnErr_zero HLE.out.symm
          have hall := smpsErr_zero hse
          obtain ⟨p0, hp0⟩ : ∃ l, ps[0]? = some l := ⟨ps[0], List.getElem?_eq_getElem (by omega)⟩
          have hw0 : wide0 ps = p0.W := by unfold wide0; rw [List.head?_eq_getElem?, hp0]; rfl
          obtain ⟨hz0, eH0, eW0⟩ := smpErr_zero (hall p0 (List.mem_of_getElem? hp0))
          obtain ⟨W0, H0, eW, eH, em, hW0, hH0, hWH⟩ := page_nat hz0
          have hsz := sizeErr_zero (pageErr_zero hz0).1
          rw [eW, eH] at hsz
          have hfz := (fontErr_zero (HFe.out.symm.trans hfe0)).1
          have hht : ht = (H0 : Int) := eH0.symm.trans eH
          have hwd : wide0 ps = (W0 : Int) := hw0.trans eW
          subst hht
          have hps2 : ∀ p ∈ ps, p.W = (W0 : Int) ∧ p.H = (H0 : Int) ∧ p.m = W0 * H0 := fun p hp => by
            obtain ⟨a1, a2, a3⟩ := smpErr_zero (hall p hp)
            obtain ⟨W', H', b1, b2, b3, -, -, -⟩ := page_nat a1
            rw [hwd] at a3
            have e1 : W' = W0 := by omega
            have e2 : H' = H0 := by omega
            exact ⟨a3, a2, by rw [b3, e1, e2]⟩
          have hls : ls.length ≤ 200 := hfz.2.2.2.2.1
          have hls0 : 0 < ls.length := by have := hfz.2.2.2.1; omega
          obtain ⟨ad, rfl, o1, -, -⟩ := (HS.out.bl hbr).at_ hp0
          rw [eW, Nat.zero_mul, Addr.add_zero'] at o1
          have hp1 : 0 < ps.length := by omega
          have hP : ∀ wx, Bl w1 wx → Paints Tryd.prog 87 #[.pointer (some ⟨w.heap.size + 2, 0, none⟩)] Value.bool wx W0 H0 (voteF ps W0) :=
            fun wx hx => ⟨enters Tryd.func87 (by kernel_rfl) rfl, fun wy x y hy hxx hyy => learnOf1_any _ (some ad) sc ps W0 H0 x y wy (w13.bl (hx.trans hy)) (HS.out.bl (hx.trans hy)) (by omega) hps2 hW0 hH0 hxx hyy⟩
          have HP := Lib.hid hP; have Hwd := Lib.hid hwd; have HLn := Lib.hid (HLE.out.symm)
          have h11 : 1 ≤ W0 ∧ 1 ≤ H0 := by omega
          clear hP hwd hw0 hall hse hfe0 hz0 eH0 eW0 eW eH em hsz hps2 hp0 HLE hfz
          go_upto_region 9 with fail
          go_cut [11] from 17 to 132 (fun s11 wc => ∃ q R rc, s11 = .pointer (some ⟨q, 0, none⟩) ∧ Blk wc q 27 #[.int .i64 W0, .int .i64 H0, .slice R (W0 * H0) rc] ∧ Reads wc 1 R (W0 * H0) ((votes ps W0 H0).map .bool) ∧ w1.heap.size ≤ q ∧ (∀ a, R = some a → w1.heap.size ≤ a.block) ∧ Bl w1 wc)
          case first =>
            refine wp_region_fork [(true, 0), (true, 1), (true, 2), (true, 3), (true, 4), (true, 5), (true, 6)] 7 [(false, 8), (false, 9)] 8 [(false, 7), (false, 9)] (fun i => i == 9) (by kernel_rfl) (by kernel_rfl) (by kernel_rfl) (by kernel_rfl) ?_
            iterate 1
              apply Flow.calm2 _ _ rfl rfl
              · intro w' hb' K' hK'
                obtain ⟨hc', hf'⟩ := hb'.rule
                go_simp
                try go_ints
                exact hK'
              · intro K' hK'
                simp only [Act.put, List.setIfInBounds_toArray, List.set_cons_zero, List.set_cons_succ]
                exact hK'
            iterate 1
              apply Flow.calm2 _ _ rfl rfl
              · intro w' hb' K' hK'
                obtain ⟨hc', hf'⟩ := hb'.rule
                go_simp
                try go_ints
                exact hK'
              · intro K' hK'
                simp only [Act.put, List.setIfInBounds_toArray, List.set_cons_zero, List.set_cons_succ]
                exact hK'
            iterate 1
              apply Flow.calm2 _ _ rfl rfl
              · intro w' hb' K' hK'
                obtain ⟨hc', hf'⟩ := hb'.rule
                go_simp
                try go_ints
                exact hK'
              · intro K' hK'
                simp only [Act.put, List.setIfInBounds_toArray, List.set_cons_zero, List.set_cons_succ]
                exact hK'
            iterate 1
              apply Flow.calm2 _ _ rfl rfl
              · intro w' hb' K' hK'
                obtain ⟨hc', hf'⟩ := hb'.rule
                go_simp
                try go_ints
                exact hK'
              · intro K' hK'
                simp only [Act.put, List.setIfInBounds_toArray, List.set_cons_zero, List.set_cons_succ]
                exact hK'
            iterate 1
              apply Flow.calm2 _ _ rfl rfl
              · intro w' hb' K' hK'
                obtain ⟨hc', hf'⟩ := hb'.rule
                go_simp
                try go_ints
                exact hK'
              · intro K' hK'
                simp only [Act.put, List.setIfInBounds_toArray, List.set_cons_zero, List.set_cons_succ]
                exact hK'
            iterate 1
              apply Flow.calm2 _ _ rfl rfl
              · intro w' hb' K' hK'
                obtain ⟨hc', hf'⟩ := hb'.rule
                go_simp
                try go_ints
                exact hK'
              · intro K' hK'
                simp only [Act.put, List.setIfInBounds_toArray, List.set_cons_zero, List.set_cons_succ]
                exact hK'
            iterate 1
              apply Flow.calm2 _ _ rfl rfl
              · intro w' hb' K' hK'
                obtain ⟨hc', hf'⟩ := hb'.rule
                go_simp
                try go_ints
                exact hK'
              · intro K' hK'
                simp only [Act.put, List.setIfInBounds_toArray, List.set_cons_zero, List.set_cons_succ]
                exact hK'
            refine Flow.fork ?_
            refine ⟨?_, ?_⟩
            · apply Flow.move rfl
              go_wp2_with fail
              refine (Made_any W0 H0 _ _ _ _ (by omega) (by omega) (by omega) (HP.out _ hbr.drew)).mono ?_
              rintro e w6 ⟨r, rfl, hpg, HB1⟩
              obtain ⟨R, rc, rfl, hR, hRn⟩ := hpg
              have hle := (hbr.drew.trans HB1).le
              have hRn' : ∀ a, R = some a → w1.heap.size ≤ a.block := fun a h => by have h2 : wr.heap.size ≤ a.block := hRn a h; have := hbr.le; omega
              have hbz : Bl w1 w6 := hbr.drew.trans HB1
              clear hRn
              go_wp2_with fail
              refine ⟨fun _ => (by first | exact HB1 | exact Bl.refl _), ?_⟩
              apply Flow.move rfl
              go_wp2_with fail
              refine ⟨fun _ => ?_, ?_⟩
              · repeat' (first | exact Bl.refl _ | refine Bl.drewL ?_ | refine Bl.drew ?_ | refine Bl.alloc ?_ _)
              refine Flow.tail _ rfl ?_
              go_wp2_with fail
              go_meet
              case rel => exact ⟨w6.heap.size, R, rc, rfl, Blk.new _ _ _, hR.bl ((Bl.refl _).alloc _), hle, hRn', hbz.alloc _⟩
            · apply Flow.move rfl
              go_wp2_with fail
              refine ⟨fun _ => ?_, ?_⟩
              · repeat' (first | exact Bl.refl _ | refine Bl.drewL ?_ | refine Bl.drew ?_ | refine Bl.alloc ?_ _)
              apply Flow.move rfl
              go_wp2_with fail
              refine (Made_any W0 H0 _ _ _ _ (by omega) (by omega) (by omega) (HP.out _ (hbr.drew.alloc _))).mono ?_
              rintro e w6 ⟨r, rfl, hpg, HB2⟩
              obtain ⟨R, rc, rfl, hR, hRn⟩ := hpg
              have hqb : Blk w6 wr.heap.size 27 #[.int .i64 0, .int .i64 0, .slice none 0 0] := (Blk.new wr.drew 27 #[.int .i64 0, .int .i64 0, .slice none 0 0]).bl HB2
              have kq := hqb.all3
              have hle := hbr.le
              have hRn' : ∀ a, R = some a → wr.heap.size + 1 ≤ a.block := fun a h => by have := hRn a h; simpa using this
              have hbz : Bl w1 w6 := (hbr.drew.alloc _).trans HB2
              clear hRn
              go_wp2_with fail
              refine ⟨fun _ => (by first | exact HB2 | exact Bl.refl _), ?_⟩
              refine Flow.tail _ rfl ?_
              go_wp2_with fail
              go_meet
              case rel =>
                refine ⟨wr.heap.size, R, rc, rfl, ((hqb.set_ 0 (.int .i64 W0)).set_ 1 (.int .i64 H0)).set_ 2 (.slice R (W0 * H0) rc), ?_, hle, fun a h => by have := hRn' a h; omega, ?_⟩
                · exact ((hR.store hRn' (by simp) _).store hRn' (by simp) _).store hRn' (by simp) _
                · exact ((hbz.setCell (by simpa using hle) _).setCell (by simpa using hle) _).setCell (by simpa using hle) _
          case rest =>
            clear k1 k3 o1
            obtain ⟨q, R, rc, rfl, hbq, hR, hq1, hRq, hbc⟩ := hcut
            rename World => wb
            have kq := hbq.all3
            have HR := Lib.hid hR
            clear hR
            go_wp2_with fail
            refine (columnsOf_any W0 H0 R rc (votes ps W0 H0) _ HR.out hW0 hH0).mono ?_
            rintro e w7 ⟨P, pc, rfl, hcol, hb7⟩
            go_wp2_with fail
            refine (ends_any P W0 pc (colN (votes ps W0 H0) W0 H0) _ hcol (by omega)).mono ?_
            rintro e w' ⟨x, r, is, rfl, hEn, rfl⟩
            have kq := (hbq.bl hb7).all3
            have HR7 := Lib.hid (HR.out.bl hb7)
            have hbc7 := hbc.trans hb7
            have hbq7 := hbq.bl hb7
            clear hcol HR
            go_upto_if 88 with fail
            go_cut [] from 89 to 132 (fun wc => ∃ l : Ltr, Blk wc q 27 #[.int .i64 l.W, .int .i64 l.H, .slice l.A l.m l.c] ∧ l.text = t ∧ NewKey t ps W0 H0 l.key ∧ Reads wc 1 l.A l.m (l.bs.map .bool) ∧ (∀ a, l.A = some a → w1.heap.size ≤ a.block) ∧ Bl w1 wc)
            case first =>
              rcases hEn with ⟨rfl, rfl, rfl, hno⟩ | ⟨rfl, hen⟩
              · have HNo := Lib.hid hno
                clear hno
                go_wp2_with fail
                go_meet
                case rel =>
                  refine ⟨⟨t, 0, 0, none, 0, 0, []⟩, ((hbq7.set_ 0 (.int .i64 0)).set_ 1 (.int .i64 0)).set_ 2 (.slice none 0 0), rfl, .inl ⟨HNo.out, ?_⟩, Reads.none_, (fun a h => by cases h), ?_⟩
                  · simp [Ltr.key, pageErr, sizeErr]
                  · exact ((hbc7.setCell hq1 _).setCell hq1 _).setCell hq1 _
              · have hxr : x ≤ r := by
                  rcases Nat.lt_or_ge r x with h | h
                  · have := hen.1.2.2 r h
                    have := hen.2.2.1
                    omega
                  · exact h
                have hrW := hen.2.1
                obtain ⟨bw, hbw⟩ : ∃ n, n = r - x + 1 := ⟨_, rfl⟩
                have e1 : (r : Int) - (x : Int) + 1 = (bw : Int) := by omega
                have hbW : x + bw ≤ W0 := by omega
                have hmul : bw * H0 ≤ W0 * H0 := Nat.mul_le_mul (by omega) (Nat.le_refl _)
                have HEn := Lib.hid hen; have Hbw := Lib.hid hbw
                clear hen hbw
                go_wp2_with fail
                refine (cutOf_any W0 H0 x 0 bw H0 R rc (votes ps W0 H0) _ HR7.out hW0 hH0 hbW (by omega)).mono ?_
                rintro e w8 ⟨R', rc', rfl, hR', hRn', hb8⟩
                have hbq8 := hbq7.bl hb8
                have kq := hbq8.all3
                have hq8 : q < w7.heap.size := hbq7.lt
                have HR' := Lib.hid hR'; have HRn' := Lib.hid hRn'
                clear hR' hRn'
                go_wp2_with fail
                go_meet
                case rel =>
                  refine ⟨⟨t, bw, H0, R', bw * H0, rc', grid bw H0 (cutF (votes ps W0 H0) W0 x 0)⟩, ((hbq8.set_ 0 (.int .i64 bw)).set_ 1 (.int .i64 H0)).set_ 2 (.slice R' (bw * H0) rc'), rfl, .inr ⟨x, r, HEn.out, ?_⟩, ?_, fun a h => ?_, ?_⟩
                  · have hpz : pageErr (bw : Int) (H0 : Int) (bw * H0) = 0 := page_ok (by omega) (by omega) (by omega) (by omega) (by omega)
                    simp only [Ltr.key, hpz, if_true]
                    rw [← Hbw.out]
                  · have hx := fun a h => (HRn'.out a h)
                    exact ((HR'.out.store (B := w7.heap.size) (fun a h => by have := hx a h; omega) hq8 _).store (B := w7.heap.size) (fun a h => by have := hx a h; omega) hq8 _).store (B := w7.heap.size) (fun a h => by have := hx a h; omega) hq8 _
                  · have := HRn'.out a h
                    have := hbc7.le
                    omega
                  · exact (((hbc7.trans hb8).setCell hq1 _).setCell hq1 _).setCell hq1 _
            case rest =>
              clear kq hbq7 HR7 hbc7 hEn hb7 hbq
              obtain ⟨l, hbq, hlt, hNK, hlA, hlB, hbd⟩ := hcut
              rename World => wd
              have hlAlt : ∀ a, l.A = some a → 0 < l.m → a.block < wd.heap.size := hlA.lt
              have k5 := (w11.bl hbd).all5
              have hcl := cloneL_any L c ls wd (HL.out.bl hbd) (by omega)
              have hqlt := hbq.lt
              have hBz : w.heap.size + 4 ≤ wd.heap.size := by have := hbd.le; omega
              have Hcl := Lib.hid hcl
              have Hlt := Lib.hid hlt; have HNK := Lib.hid hNK; have HlA := Lib.hid hlA; have HlB := Lib.hid hlB; have HbQ := Lib.hid hbq
              clear hcl hlt hNK hlA hlB hbq
              go_wp2_with fail
              refine Hcl.out.mono ?_
              rintro e w9 ⟨v, rfl, hown, hb9⟩
              have hb19 := hbd.trans hb9
              obtain ⟨g, cap, rfl, hgB, hcap⟩ := own_some hown hls0
              clear k5
              have k5 := (w11.bl hb19).all5
              have HOwn := Lib.hid hown
              clear hown
              go_wp2_with fail
              -- the font's letters are now the clone's
              obtain ⟨wA, hwA⟩ : ∃ x, x = w9.setCell ⟨w.heap.size, 4, none⟩ (.slice (some ⟨g, 0, none⟩) ls.length cap) := ⟨_, rfl⟩
              have hFA : Blk wA w.heap.size 24 #[.string ⟨nm.toArray⟩, .int .i64 H0, .int .i64 gap, .int .i64 sp, .slice (some ⟨g, 0, none⟩) ls.length cap] := by rw [hwA]; exact (w11.bl hb19).set_ 4 _
              have hTA : Blk wA (w.heap.size + 1) 9 #[.string ⟨t.toArray⟩] := by rw [hwA]; exact (w12.bl hb19).far (by simp) _
              have hQA : Blk wA q 27 #[.int .i64 l.W, .int .i64 l.H, .slice l.A l.m l.c] := by rw [hwA]; exact (HbQ.out.bl hb9).far (by simp; omega) _
              have hOA : wA.ownsRow wd.heap.size 93 4 (.slice (some ⟨g, 0, none⟩) ls.length cap) ls.length (ltrCells ls) := by rw [hwA]; exact ownsRow_setCell_below HOwn.out (by simp; omega) _
              have hZA : Blk wA (w.heap.size + 3) 24 #[.string ⟨#[]⟩, .int .i64 0, .int .i64 0, .int .i64 0, .slice none 0 0] := by rw [hwA]; exact (w14.bl hb19).far (by simp; omega) _
              have hAA : Reads wA 1 l.A l.m (l.bs.map .bool) := by rw [hwA]; exact (HlA.out.bl hb9).store HlB.out (by simp; omega) _
              have hbA : Bl w wA := by rw [hwA]; exact (w1b.trans hb19).setCell (by simp) _
              have hsA : wd.heap.size ≤ wA.heap.size := by rw [hwA]; simpa using hb9.le
              rw [← hwA]
              clear hwA k5
              have hLA : LtrsAt wA (some ⟨g, 0, none⟩) ls := by
                obtain ⟨R2, c2, e2, h2⟩ := LtrsAt.of_own hOA (fun y hy => (HL0.out.bl hbA).2 y hy)
                injection e2 with e2
                subst e2
                exact h2
              have hix := ltrIndex_any (some ⟨g, 0, none⟩) cap ls _ _ _ wA hLA (learnIs_tests _ t ls wA hTA) (by omega)
              refine hix.mono ?_
              rintro e wB ⟨ix, rfl, hFI, hbB⟩
              have k5 := (hFA.bl hbB).all5
              have hFB := hFA.bl hbB
              have hTB := hTA.bl hbB
              have hQB := hQA.bl hbB
              have hOB := own_bl hOA hbB
              have hZB := hZA.bl hbB
              have hAB := hAA.bl hbB
              have hb0B := hbA.trans hbB
              have hsB : wd.heap.size ≤ wB.heap.size := Nat.le_trans hsA hbB.le
              clear hix hLA hFA hTA hQA hOA hZA hAA HOwn Hcl
              go_upto_if 109 with fail
              go_cut [15] from 110 to 132 (fun s15 wc => ∃ (k : Nat) (v : Value) (l0 : Ltr) (ls1 : List Ltr), s15 = .int .i64 k ∧ Blk wc w.heap.size 24 #[.string ⟨nm.toArray⟩, .int .i64 H0, .int .i64 gap, .int .i64 sp, v] ∧ wc.ownsRow wd.heap.size 93 4 v ls1.length (ltrCells ls1) ∧ ls1[k]? = some l0 ∧ ls1.length ≤ 1000 ∧
                (∀ l' : Ltr, l'.text = t → Placed ls t l'.key ((ls1.set k l').map Ltr.key) ∧ ∀ y ∈ ls1.set k l', y ∈ ls ∨ y = l') ∧ Blk wc (w.heap.size + 1) 9 #[.string ⟨t.toArray⟩] ∧ Blk wc q 27 #[.int .i64 l.W, .int .i64 l.H, .slice l.A l.m l.c] ∧
                Blk wc (w.heap.size + 3) 24 #[.string ⟨#[]⟩, .int .i64 0, .int .i64 0, .int .i64 0, .slice none 0 0] ∧ Reads wc 1 l.A l.m (l.bs.map .bool) ∧ Bl w wc)
              case first =>
                rcases hFI with ⟨rfl, hno⟩ | ⟨j, l0, rfl, hj, hpj, hbe⟩
                · have HNo := Lib.hid hno
                  clear hno
                  have hown1 := hOB.alloc (.cells #[.string ⟨#[]⟩, .int .i64 0, .int .i64 0, .slice none 0 0] 93)
                  go_wp2_with (at_builtin; refine wpList_append_bl rfl (.tmp 114) (.tmp 116) 22 rfl 93 (.agg #[.string ⟨#[]⟩, .int .i64 0, .int .i64 0, .slice none 0 0]) 4 56 Tryd.underlying22 info_ltr rfl (by omega) wd.heap.size _ ls.length (ltrCells ls) rfl (hb0B.alloc _) ?hB ?hBr hown1 (some ⟨wB.heap.size, 0, none⟩) 1 1 _ rfl ((Blk.new wB _ _).reads 1 4 rfl) ?h1 ?c1 ?c2 ?_)
                  case hB => omega
                  case hBr => first | omega | (simp; omega)
                  case h1 => simp [Value.oneCell']
                  case c1 => unfold maxLen; omega
                  case c2 => omega
                  intro v' wC hown' hbC hgr
                  obtain ⟨g', cap', rfl, -, -⟩ := own_some hown' (by omega)
                  have far : ∀ x, x < wd.heap.size → some x ≠ (Value.slice (some ⟨g, 0, none⟩) ls.length cap).ownBlock := fun x hx h => by simp [Value.ownBlock] at h; omega
                  have hFC := (hFB.alloc (.cells #[.string ⟨#[]⟩, .int .i64 0, .int .i64 0, .slice none 0 0] 93)).grown hgr (far _ (by omega))
                  have hTC := (hTB.alloc (.cells #[.string ⟨#[]⟩, .int .i64 0, .int .i64 0, .slice none 0 0] 93)).grown hgr (far _ (by omega))
                  have hQC := (hQB.alloc (.cells #[.string ⟨#[]⟩, .int .i64 0, .int .i64 0, .slice none 0 0] 93)).grown hgr (far _ (by omega))
                  have hZC := (hZB.alloc (.cells #[.string ⟨#[]⟩, .int .i64 0, .int .i64 0, .slice none 0 0] 93)).grown hgr (far _ (by omega))
                  have hAC := (hAB.bl ((Bl.refl _).alloc (.cells #[.string ⟨#[]⟩, .int .i64 0, .int .i64 0, .slice none 0 0] 93))).grown hgr (fun a ha hm h => by have := hlAlt a ha hm; exact far _ this h)
                  clear k5
                  have k5 := hFC.all5
                  go_wp2_with fail
                  go_meet
                  case rel =>
                    refine ⟨ls.length, _, Ltr.zero, ls ++ [Ltr.zero], rfl, hFC.set_ 4 _, ?_, by simp, by simp; omega, fun l' hl' => ⟨⟨-1, .inl ⟨rfl, HNo.out⟩, ?_⟩, ?_⟩, hTC.far (by simp) _, hQC.far (by first | omega | (simp; omega)) _, hZC.far (by first | (simp; done) | (simp; omega)) _, ?_, ?_⟩
                    · rw [ltrCells_append, List.length_append]
                      exact ownsRow_setCell_below hown' (by simp; omega) _
                    · simp
                    · intro y hy
                      simpa using hy
                    · exact hAC.far (by intro a ha hm; have := HlB.out a ha; simp; omega) _
                    · exact hbC.setCell (by simp) _
                · have HJ := Lib.hid hj; have HPj := Lib.hid hpj; have HBe := Lib.hid hbe
                  clear hj hpj hbe
                  go_wp2_with fail
                  go_meet
                  case rel =>
                    refine ⟨j, _, l0, ls, rfl, hFB, hOB, HJ.out, by omega, fun l' hl' => ⟨⟨(j : Int), .inr ⟨j, l0, rfl, HJ.out, HPj.out, HBe.out⟩, ?_⟩, ?_⟩, hTB, hQB, hZB, hAB, hb0B⟩
                    · rw [if_pos (by omega)]
                      simp [List.map_set]
                    · intro y hy
                      rcases List.mem_or_eq_of_mem_set hy with h | h
                      · exact .inl h
                      · exact .inr h
              case rest =>
                clear k5 hFI hFB hTB hQB hOB hZB hAB hb0B hsB hbB hbA hsA hgB hcap hb19 hb9
                obtain ⟨k, v, l0, ls1, rfl, hF, hO, hk, hl1, hpl, hT, hQ, hZ, hA, hb⟩ := hcut
                rename World => wE
                obtain ⟨g, cap, rfl, hgB, hcap⟩ := own_some hO (by have := (List.getElem?_eq_some_iff.1 hk).1; omega)
                have hkl : k < ls1.length := (List.getElem?_eq_some_iff.1 hk).1
                obtain ⟨hpl1, hpl2⟩ := hpl l Hlt.out
                have hk4 := hF.all5
                have hk5 := hT.all1
                have hk6 := hQ.all3
                have hgl : g < wE.heap.size := own_lt hO
                obtain ⟨hcs, hfz⟩ := own_blk hO
                obtain ⟨v0, hc0⟩ := hcs (k * 4) (by omega)
                obtain ⟨v1, hc1⟩ := hcs (k * 4 + 1) (by omega)
                obtain ⟨v2, hc2⟩ := hcs (k * 4 + 2) (by omega)
                obtain ⟨v3, hc3⟩ := hcs (k * 4 + 3) (by omega)
                clear hcs
                have hO2 := own_letter l hO hk
                have htt := Hlt.out
                rw [htt] at hO2
                have HO2 := Lib.hid hO2; have HPl1 := Lib.hid hpl1; have HPl2 := Lib.hid hpl2; have HK := Lib.hid hk
                clear hO2 hpl1 hpl2 hk hpl htt hO
                have gn1 : ¬ (w.heap.size = g) := by omega
                have gn2 : ¬ (g = w.heap.size) := by omega
                go_wp2_with fail
                obtain ⟨wF, hwF⟩ : ∃ x, x = ((((wE.setCell ⟨g, k * 4, none⟩ (.string ⟨t.toArray⟩)).setCell ⟨g, k * 4 + 1, none⟩ (.int .i64 l.W)).setCell ⟨g, k * 4 + 2, none⟩ (.int .i64 l.H)).setCell ⟨g, k * 4 + 3, none⟩ (.slice l.A l.m l.c)) := ⟨_, rfl⟩
                obtain ⟨ls2, hls2⟩ : ∃ x, x = ls1.set k l := ⟨_, rfl⟩
                have hl2 : ls2.length = ls1.length := by rw [hls2, List.length_set]
                have hOF : wF.ownsRow wd.heap.size 93 4 (.slice (some ⟨g, 0, none⟩) ls2.length cap) ls2.length (ltrCells ls2) := by rw [hwF, hl2, hls2]; exact HO2.out
                have hAF : Reads wF 1 l.A l.m (l.bs.map .bool) := by
                  have hx : ∀ a, l.A = some a → 0 < l.m → a.block ≠ g := fun a ha hm => by have := hlAlt a ha hm; omega
                  rw [hwF]
                  exact (((hA.far hx _).far hx _).far hx _).far hx _
                have hbF : Bl w wF := by
                  rw [hwF]
                  exact (((hb.setCell (by simp; omega) _).setCell (by simp; omega) _).setCell (by simp; omega) _).setCell (by simp; omega) _
                have hFF : Blk wF w.heap.size 24 #[.string ⟨nm.toArray⟩, .int .i64 H0, .int .i64 gap, .int .i64 sp, .slice (some ⟨g, 0, none⟩) ls1.length cap] := by
                  rw [hwF]
                  exact (((hF.far (by simp; omega) _).far (by simp; omega) _).far (by simp; omega) _).far (by simp; omega) _
                have hZF : Blk wF (w.heap.size + 3) 24 #[.string ⟨#[]⟩, .int .i64 0, .int .i64 0, .int .i64 0, .slice none 0 0] := by
                  rw [hwF]
                  exact (((hZ.far (by simp; omega) _).far (by simp; omega) _).far (by simp; omega) _).far (by simp; omega) _
                rw [← hwF]
                have hLF : LtrsAt wF (some ⟨g, 0, none⟩) ls2 := by
                  obtain ⟨R2, c2, e2, h2⟩ := LtrsAt.of_own hOF (fun y hy => by
                    rcases HPl2.out y (by rw [← hls2]; exact hy) with h | rfl
                    · exact (HL0.out.bl hbF).2 y h
                    · exact ⟨hAF, by rw [Hlt.out]; exact ht'⟩)
                  injection e2 with e2
                  subst e2
                  exact h2
                have HMem := Lib.hid (show ∀ y ∈ ls2, y ∈ ls ∨ y = l by rw [hls2]; exact HPl2.out)
                have HAF := Lib.hid hAF
                have hPF : Placed ls t l.key (ls2.map Ltr.key) := by rw [hls2]; exact HPl1.out
                have hfe := fontError_any nm H0 gap sp (some ⟨g, 0, none⟩) cap ls2 wF hLF hnm (by omega) (by omega)
                rw [hl2] at hfe
                obtain ⟨E2, hE2⟩ : ∃ x, x = fontErr (nameB nm) H0 gap sp ls2 := ⟨_, rfl⟩
                rw [← hE2] at hfe
                have Hfe2 := Lib.hid hfe; have HE2 := Lib.hid hE2; have HPF := Lib.hid hPF; have HLF := Lib.hid hLF; have HL2 := Lib.hid hl2
                clear hfe hE2 hPF hLF hOF hAF hwF hls2 hk4 hk5 hk6 hF hT hQ hZ hA hb hc0 hc1 hc2 hc3 hfz hl2 HO2 HPl1 HPl2
                refine Hfe2.out.mono ?_
                rintro e wG ⟨rfl, hbG⟩
                have k4 := (hZF.bl hbG).all5
                have k5 := (hFF.bl hbG).all5
                have hLG := HLF.out.bl hbG
                have HLG := Lib.hid hLG
                have hbw := hbF.trans hbG
                clear hLG
                by_cases hz : E2 = 0
                case neg =>
                  have hq : (E2 == 0) = false := by simp [hz]
                  have HNZ := Lib.hid hz
                  clear hz
                  go_wp2_with fail
                  refine bodyPost_ret (v := .tuple #[.agg #[.string ⟨#[]⟩, .int .i64 0, .int .i64 0, .int .i64 0, .slice none 0 0], .int .i64 E2]) (by simp [results, Tryd.results21, go_sem, k4]) rfl ⟨[], 0, 0, 0, none, 0, 0, E2, rfl, ?_, ?_⟩
                  · exact ⟨fun h => absurd (by rw [← HFe.out]; exact HLn.out) h, fun _ => ⟨ls2, l.key, by rw [Hwd.out]; simpa using HNK.out, HPF.out, HE2.out, fun h => absurd h HNZ.out, fun _ => ⟨rfl, rfl, rfl, rfl, rfl, rfl⟩⟩⟩
                  · exact ((((hbw.setCell (by simp; omega) _).setCell (by simp; omega) _).setCell (by simp; omega) _).setCell (by simp; omega) _).setCell (by simp; omega) _
                case pos =>
                  subst hz
                  have gnz : ∀ i, (⟨w.heap.size + 3, i, none⟩ : Addr).block < wd.heap.size := fun i => by simp; omega
                  go_wp2_with fail
                  refine bodyPost_ret (v := .tuple #[.agg #[.string ⟨nm.toArray⟩, .int .i64 H0, .int .i64 gap, .int .i64 sp, .slice (some ⟨g, 0, none⟩) ls1.length cap], .int .i64 0]) (by simp [results, Tryd.results21, go_sem, k4]) rfl ⟨nm, H0, gap, sp, some ⟨g, 0, none⟩, ls1.length, cap, 0, rfl, ?_, ?_⟩
                  · refine ⟨fun h => absurd (by rw [← HFe.out]; exact HLn.out) h, fun _ => ⟨ls2, l.key, by rw [Hwd.out]; simpa using HNK.out, HPF.out, HE2.out, fun _ => ⟨⟨rfl, rfl, rfl, rfl, HL2.out.symm⟩, ?_⟩, fun h => absurd rfl h⟩⟩
                    have hg : ∀ a, some (⟨g, 0, none⟩ : Addr) = some a → 0 < ls2.length → a.block ≠ w.heap.size + 3 := fun a ha _ => by injection ha with ha; subst ha; show g ≠ _; omega
                    have hx : ∀ a, l.A = some a → 0 < l.m → a.block ≠ w.heap.size + 3 := fun a ha _ => by have := HlB.out a ha; omega
                    refine ⟨(((((HLG.out.1).far hg _).far hg _).far hg _).far hg _).far hg _, fun y hy => ?_⟩
                    rcases HMem.out y hy with h | rfl
                    · exact (HL0.out.bl (((((hbw.setCell (by simp; omega) _).setCell (by simp; omega) _).setCell (by simp; omega) _).setCell (by simp; omega) _).setCell (by simp; omega) _)).2 y h
                    · exact ⟨((((((HAF.out.bl hbG).far hx _).far hx _).far hx _).far hx _).far hx _), by rw [Hlt.out]; exact ht'⟩
                  · exact ((((hbw.setCell (by simp; omega) _).setCell (by simp; omega) _).setCell (by simp; omega) _).setCell (by simp; omega) _).setCell (by simp; omega) _

end Go.Proofs.YtjelhdpcaileiaaDoor
