/- The law ReadsMatch answers true. -/
import Derived.Test.YtkhajhcfplicpaaDoorS47
import Derived.Test.YtkhajhcfplicpaaDoorS34

namespace Go.Proofs.YtkhajhcfplicpaaDoor
open Go.RowKit

theorem ba_append (a b : List UInt8) : (ByteArray.mk a.toArray ++ ByteArray.mk b.toArray) = ByteArray.mk (a ++ b).toArray := by
  apply ByteArray.ext
  simp [ByteArray.data_append]
set_option maxRecDepth 100000 in
set_option maxHeartbeats 8000000 in
theorem lawReads_any (nm : List UInt8) (ht gap sp : Int) (L : Option Addr) (c : Nat) (ls : List Ltr) (bW bH : Int) (A : Option Addr) (n bc : Nat) (bs : List Bool) (most dm : Int) (w : World) (hL : LtrsAt w L ls) (hA : Reads w 1 A n (bs.map .bool))
    (hnm : nm.length ≤ 9223372036854775807) (hn : ls.length ≤ 9223372036854775807) (hc : ls.length ≤ c) (hnn : n ≤ 9223372036854775807) :
    Calls Tryd.prog 7 #[.agg #[.string ⟨nm.toArray⟩, .int .i64 ht, .int .i64 gap, .int .i64 sp, .slice L ls.length c], .agg #[.int .i64 bW, .int .i64 bH, .slice A n bc], .int .i64 most, .int .i64 dm] w fun e w' => e = .returned (.bool true) ∧ Bl w w' := by
  let w2 := ((w).alloc (.cells #[.string ⟨nm.toArray⟩, .int .i64 ht, .int .i64 gap, .int .i64 sp, .slice L ls.length c] 67)).alloc (.cells #[.int .i64 bW, .int .i64 bH, .slice A n bc] 24)
  have w2b : Bl w w2 := ((Bl.refl w).alloc _).alloc _
  have w21 : Blk w2 (w.heap.size) 67 #[.string ⟨nm.toArray⟩, .int .i64 ht, .int .i64 gap, .int .i64 sp, .slice L ls.length c] := by
    have h0 := Blk.new (w) 67 #[.string ⟨nm.toArray⟩, .int .i64 ht, .int .i64 gap, .int .i64 sp, .slice L ls.length c]
    exact (h0.alloc _)
  have w22 : Blk w2 (w.heap.size + 1) 24 #[.int .i64 bW, .int .i64 bH, .slice A n bc] := by
    have h0 := Blk.new ((w).alloc (.cells #[.string ⟨nm.toArray⟩, .int .i64 ht, .int .i64 gap, .int .i64 sp, .slice L ls.length c] 67)) 24 #[.int .i64 bW, .int .i64 bH, .slice A n bc]
    simp only [World.size_alloc] at h0
    exact h0
  have lw2 : w2.heap.size = w.heap.size + 2 := by simp [w2]
  have HL := Lib.hid (hL.bl w2b); have HA := Lib.hid (hA.bl w2b)
  have hrd := read_any nm ht gap sp L c ls bW bH A n bc bs most w2 (hL.bl w2b) (hA.bl w2b) hnm hn
  have Hrd := Lib.hid hrd
  have k1 := w21.all5
  have k2 := w22.all3
  obtain ⟨NE, hNE⟩ : ∃ x, x = readErr (fontErr (nameB nm) ht gap sp ls) (pageErr bW bH n) bH ht most := ⟨_, rfl⟩
  have HNE := Lib.hid hNE
  clear hL hA hrd hNE
  go_enter Tryd.func7, Tryd.ntmps7
  go_wp2_with fail
  refine Hrd.out.mono ?_
  rintro e w5 ⟨R, m, d, err, rfl, hres, hb5⟩
  clear_value w2
  have herr : err = NE := by rw [HNE.out]; exact hres.1
  subst herr
  have HRes := Lib.hid hres
  have hle5 := hb5.le
  clear hres k1 k2 Hrd
  go_upto_region 2 with fail
  have k1 := (w21.bl hb5).all5
  have k2 := (w22.bl hb5).all3
  have hf : firstNZ [fontErr (nameB nm) ht gap sp ls, pageErr bW bH n, whenI (bH != ht) 11, whenI (!inB most 0 1000) 3] = err := by rw [HNE.out]; rfl
  refine wp_region_flow [(true, 0), (true, 2), (true, 4), (true, 5), (true, 6), (true, 7), (true, 8), (true, 10), (false, 1), (false, 3), (false, 9), (false, 11), (true, 12), (false, 13), (false, 14), (false, 15), (true, 16)] (fun _ => false) (by kernel_rfl) (by kernel_rfl) (by kernel_rfl) (by kernel_rfl) ?_
  iterate 2
    apply Flow.calm2 _ _ rfl rfl
    · intro w' hb' K' hK'
      obtain ⟨hc', hf'⟩ := hb'.rule
      go_simp
      try go_ints
      exact hK'
    · intro K' hK'
      simp only [Act.put, List.setIfInBounds_toArray, List.set_cons_zero, List.set_cons_succ]
      exact hK'
  iterate 1
    apply Flow.calm2 _ _ rfl rfl
    · intro w' hb' K' hK'
      obtain ⟨hc', hf'⟩ := hb'.rule
      go_simp
      try go_ints
      exact hK'
    · intro K' hK'
      simp only [Act.put, List.setIfInBounds_toArray, List.set_cons_zero, List.set_cons_succ]
      exact hK'
  iterate 1
    apply Flow.calm2 _ _ rfl rfl
    · intro w' hb' K' hK'
      obtain ⟨hc', hf'⟩ := hb'.rule
      go_simp
      try go_ints
      exact hK'
    · intro K' hK'
      simp only [Act.put, List.setIfInBounds_toArray, List.set_cons_zero, List.set_cons_succ]
      exact hK'
  iterate 1
    apply Flow.calm2 _ _ rfl rfl
    · intro w' hb' K' hK'
      obtain ⟨hc', hf'⟩ := hb'.rule
      go_simp
      try go_ints
      exact hK'
    · intro K' hK'
      simp only [Act.put, List.setIfInBounds_toArray, List.set_cons_zero, List.set_cons_succ]
      exact hK'
  iterate 1
    apply Flow.calm2 _ _ rfl rfl
    · intro w' hb' K' hK'
      obtain ⟨hc', hf'⟩ := hb'.rule
      go_simp
      try go_ints
      exact hK'
    · intro K' hK'
      simp only [Act.put, List.setIfInBounds_toArray, List.set_cons_zero, List.set_cons_succ]
      exact hK'
  iterate 1
    apply Flow.calm2 _ _ rfl rfl
    · intro w' hb' K' hK'
      obtain ⟨hc', hf'⟩ := hb'.rule
      go_simp
      try go_ints
      exact hK'
    · intro K' hK'
      simp only [Act.put, List.setIfInBounds_toArray, List.set_cons_zero, List.set_cons_succ]
      exact hK'
  iterate 1
    apply Flow.mv _ rfl
    · intro K' hK'
      simp only [Act.put, Act.eval, List.setIfInBounds_toArray, List.set_cons_zero, List.set_cons_succ, arr_getD, List.getD_cons_zero, List.getD_cons_succ]
      exact hK'
  apply Flow.move rfl
  go_wp2_with fail
  refine (fontError_any _ _ _ _ _ _ _ _ (HL.out.bl (hb5.trans (Bl.refl _).drew)) hnm hn hc).mono ?_
  rintro e w6 ⟨rfl, HB1⟩
  go_wp2_with fail
  refine ⟨fun _ => (by first | exact HB1 | exact Bl.refl _), ?_⟩
  apply Flow.move rfl
  go_wp2_with fail
  refine (bitsError_any _ _ _ _ _ _).mono ?_
  rintro e w7 ⟨rfl, HB2⟩
  go_wp2_with fail
  refine ⟨fun _ => (by first | exact HB2 | exact Bl.refl _), ?_⟩
  apply Flow.move rfl
  go_wp2_with fail
  refine (when_any _ _ _).mono ?_
  rintro e w' ⟨rfl, rfl⟩
  go_wp2_with fail
  refine ⟨fun _ => (by first | exact HB3 | exact Bl.refl _), ?_⟩
  apply Flow.move rfl
  go_wp2_with fail
  refine (in_any _ _ _ _).mono ?_
  rintro e w' ⟨rfl, rfl⟩
  go_wp2_with fail
  refine ⟨fun _ => (by first | exact HB4 | exact Bl.refl _), ?_⟩
  iterate 1
    apply Flow.calm2 _ _ rfl rfl
    · intro w' hb' K' hK'
      obtain ⟨hc', hf'⟩ := hb'.rule
      go_simp
      try go_ints
      exact hK'
    · intro K' hK'
      simp only [Act.put, List.setIfInBounds_toArray, List.set_cons_zero, List.set_cons_succ]
      exact hK'
  apply Flow.move rfl
  go_wp2_with fail
  refine (when_any _ _ _).mono ?_
  rintro e w' ⟨rfl, rfl⟩
  go_wp2_with fail
  refine ⟨fun _ => (by first | exact HB5 | exact Bl.refl _), ?_⟩
  apply Flow.move rfl
  go_wp2_with fail
  first | refine ⟨fun _ => ?_, ?_⟩ | refine ⟨?_, ?_⟩
  · repeat' (first | exact Bl.refl _ | refine Bl.drewL ?_ | refine Bl.drew ?_ | refine Bl.alloc ?_ _)
  apply Flow.move rfl
  go_wp2_with fail
  refine (first4_any _ _ _ _ _ _ (Blk.new _ _ _)).mono ?_
  rintro e w' ⟨rfl, rfl⟩
  go_wp2_with fail
  refine ⟨fun _ => (by first | exact HB7 | exact Bl.refl _), ?_⟩
  iterate 1
    apply Flow.asg _ rfl
    · intro K' hK'
      simp only [Act.put, Act.eval, List.setIfInBounds_toArray, List.set_cons_zero, List.set_cons_succ, arr_getD, List.getD_cons_zero, List.getD_cons_succ]
      exact hK'
  refine Flow.done ?_
  obtain ⟨w8, hw8⟩ : ∃ x, x = w7.alloc (.cells #[.int .i64 (fontErr (nameB nm) ht gap sp ls), .int .i64 (pageErr bW bH n), .int .i64 (whenI (bH != ht) 11), .int .i64 (whenI (!inB most 0 1000) 3)] 30) := ⟨_, rfl⟩
  have hb58 : Bl w5 w8 := by rw [hw8]; exact ((Bl.ofDrew HB1).trans HB2).alloc _
  clear k1 k2 hf
  go_upto_region 3 with fail
  rw [← hw8]
  clear hw8 HB1 HB2
  have hb8 := hb5.trans hb58
  go_cut [45] from 40 to 45 (fun s45 wc => s45 = .bool (decide (err ≠ 0)) ∧ Bl w8 wc)
  case first =>
    by_cases hz : err = 0
    · have hq : (err != 0) = false := by simp [hz]
      have HZ := Lib.hid hz
      clear hz
      go_wp2_with fail
      refine (glyphs_any _).mono ?_
      rintro e w9 ⟨rfl, hb9⟩
      go_wp2_with fail
      go_meet
      case rel => exact ⟨by simp [HZ.out], hb9⟩
    · have hq : (err != 0) = true := by simp [hz]
      have HZ := Lib.hid hz
      clear hz
      go_wp2_with fail
      refine (glyphs_any _).mono ?_
      rintro e w9 ⟨rfl, hb9⟩
      go_wp2_with fail
      go_meet
      case rel => exact ⟨by simp [HZ.out], hb9⟩
  case rest =>
    obtain ⟨rfl, hb89⟩ := hcut
    rename World => w9
    have hb9 := hb8.trans hb89
    by_cases hz : err = 0
    case neg =>
      have hm0 := (HRes.out.2.1 hz).2
      have HZ := Lib.hid hz
      have hq : decide (err ≠ 0) = true := by simp [hz]
      subst hm0
      clear hz
      rw [hq]
      clear hq
      go_wp2_with fail
      refine (glyphs_any _).mono ?_
      rintro e w10 ⟨rfl, hb10⟩
      go_wp2_with fail
      go_ret
      exact ⟨rfl, w2b.trans (hb9.trans hb10)⟩
    case pos =>
      subst hz
      have hq : decide ((0 : Int) ≠ 0) = false := by decide
      rw [hq]
      clear hq
      have k1 := (w21.bl hb9).all5
      have k2 := (w22.bl hb9).all3
      by_cases c1 : 2500 < n
      · go_wp2_with fail
        go_ret
        exact ⟨rfl, w2b.trans hb9⟩
      · by_cases c2 : 12 < ls.length
        · go_wp2_with fail
          go_ret
          exact ⟨rfl, w2b.trans hb9⟩
        · have hz := firstNZ_zero (HNE.out.symm)
          have z1 : fontErr (nameB nm) ht gap sp ls = 0 := hz _ (by simp)
          have z2 : pageErr bW bH n = 0 := hz _ (by simp)
          have z3 := whenI_zero (hz (whenI (bH != ht) 11) (by simp)) (by decide)
          have z4 := whenI_zero (hz (whenI (!inB most 0 1000) 3) (by simp)) (by decide)
          have z5 : bH = ht := by simpa using z3
          have z6 : inB most 0 1000 = true := by simpa using z4
          have z7 := inB_true.1 z6
          obtain ⟨W, H, rfl, rfl, rfl, hW, hH, hWH⟩ := page_nat z2
          have hsz := sizeErr_zero (pageErr_zero z2).1
          obtain ⟨⟨-, hrg, -, hls0, hls, hht1, hht2⟩, hltr⟩ := fontErr_zero z1
          have hrg2 : 1 ≤ gap ∧ gap ≤ 16 ∧ 1 ≤ sp ∧ sp ≤ 64 := by
            unfold rangeB at hrg
            simp only [Bool.and_eq_true] at hrg
            have h1 := inB_true.1 hrg.2.1
            have h2 := inB_true.1 hrg.2.2
            exact ⟨h1.1, h1.2, h2.1, h2.2⟩
          have hR := HRes.out.2.2 rfl
          simp only [Int.toNat_natCast] at hR
          obtain ⟨ps, hps⟩ : ∃ ps, ps = piecesTo (colN bs W H) W := ⟨_, rfl⟩
          have hin : ∀ p ∈ ps, 1 ≤ p.2 ∧ p.1 + p.2 ≤ W := by rw [hps]; exact pieces_in _ W
          have hpl : ps.length ≤ W := by rw [hps]; exact pieces_len _ W
          have hlx : ∀ l ∈ ls, (l.W ≤ 64 ∧ l.H ≤ 4000) ∧ l.text.length ≤ 4 := fun l hl => by
            obtain ⟨h1, h2, h3, h4⟩ := hltr l hl
            refine ⟨⟨h4, by omega⟩, ?_⟩
            unfold textB at h1
            simp only [Bool.and_eq_true, decide_eq_true_eq] at h1
            omega
          obtain ⟨ss, hss, hso, hsn⟩ := line_sn (bs := bs) (W := W) (H := H) (ls := ls) (most := most) (ht := ht) (gs := (gap + sp + 1) / 2) (ps := ps) hH hlx (fun p hp => by have := hin p hp; omega) ps.length (Nat.le_refl _)
          have hso2 := seenOf_any nm ht gap sp L c ls W H A bc bs most w9 (HL.out.bl hb9) (HA.out.bl hb9) hW (by omega) hrg2 (fun l hl => ⟨(hltr l hl).2.1, (hltr l hl).2.2.2⟩) hls z7 (by omega)
          rw [← hps, hss, map_flat, List.length_map] at hR
          obtain ⟨rfl, hR⟩ := hR
          rw [← hps, hss, map_flat, List.length_map] at hso2
          have hss8000 : ss.length ≤ 8000 := by omega
          have HR := Lib.hid (hR.bl (hb58.trans hb89)); have HSo := Lib.hid hso; have Hso2 := Lib.hid hso2
          clear hR hso hso2 hss hsn hin hps hpl hlx hz z1 z2 z3 z4 z6 hrg hltr hsz HRes HNE
          subst z5
          go_wp2_with fail
          refine Hso2.out.mono ?_
          rintro e w10 ⟨v0, rfl, hown, hb10⟩
          obtain ⟨R2, c2', rfl, hR2, -⟩ := own_new hown
          have HR2 := Lib.hid hR2
          have hb910 := hb9.trans hb10
          have HR1 := Lib.hid (HR.out.bl hb10)
          clear hown hR2 k1 k2 Hso2
          have h0 : w10.ownsRow w10.heap.size 3 1 (.slice none 0 0) (doubtsTo dm ss 0).length (natCells (doubtsTo dm ss 0)) := World.ownsRow_nil _ _ _ _
          have H0 := Lib.hid h0
          clear h0
          go_wp2_with fail
          go_loopw [75, 13, 14] (fun u t v wr => ∃ k : Nat, k ≤ ss.length ∧ u = .int .i64 k ∧ t = .string ⟨(textOf (ss.take k)).toArray⟩ ∧ Bl w10 wr ∧ wr.ownsRow w10.heap.size 3 1 v (doubtsTo dm ss k).length (natCells (doubtsTo dm ss k))) (fun u _ _ _ => ss.length - (RowKit.intOf u).toNat)
          case atStart => exact ⟨0, Nat.zero_le _, rfl, rfl, Bl.refl _, H0.out⟩
          case round =>
            obtain ⟨k, hk, rfl, rfl, hbr, hown⟩ := hrel
            obtain ⟨R3, c3', rfl, -, -⟩ := own_new hown
            have hdl := doubts_len dm ss k
            have hlen := take_in (fun s hs => (HSo.out s hs).1) k
            have HOw := Lib.hid hown
            clear hown
            by_cases hlt : k < ss.length
            · have hg : ss[k]? = some ss[k] := List.getElem?_eq_getElem hlt
              obtain ⟨s, hs⟩ : ∃ s, s = ss[k] := ⟨_, rfl⟩
              rw [← hs] at hg
              have hbs := HSo.out s (List.mem_of_getElem? hg)
              obtain ⟨hb1, hb2, hb3⟩ := hbs
              have hds := doubts_succ (m := dm) hg
              have hts := textOf_succ hg
              obtain ⟨nd, hnd⟩ : ∃ n, n = (doubtsTo dm ss k).length := ⟨_, rfl⟩
              rw [← hnd] at hdl
              have HOw := Lib.hid (show wr.ownsRow w10.heap.size 3 1 (.slice R3 nd c3') nd (natCells (doubtsTo dm ss k)) by rw [hnd]; exact HOw.out)
              rw [← hnd]
              obtain ⟨tx, htx⟩ : ∃ x, x = textOf (ss.take k) := ⟨_, rfl⟩
              rw [← htx] at hts hlen ⊢
              obtain ⟨ad, rfl, x0, x1, x2, x3, x4, x5, x6⟩ := sn_at (HR2.out.bl hbr) hg
              have HDs := Lib.hid hds; have HNd := Lib.hid hnd; have HTs := Lib.hid hts
              clear hs hg hds hnd hts htx
              go_upto_region 13 with fail
              obtain ⟨w11, hw11⟩ : ∃ x, x = wr.alloc (.cells #[.string ⟨s.t.toArray⟩, .int .i64 s.X, .int .i64 s.Y, .int .i64 s.W, .int .i64 s.H, .int .i64 s.d, .int .i64 s.e] 85) := ⟨_, rfl⟩
              obtain ⟨q, hq⟩ : ∃ x, x = wr.heap.size := ⟨_, rfl⟩
              have bq : Blk w11 q 85 #[.string ⟨s.t.toArray⟩, .int .i64 s.X, .int .i64 s.Y, .int .i64 s.W, .int .i64 s.H, .int .i64 s.d, .int .i64 s.e] := by rw [hw11, hq]; exact Blk.new _ _ _
              have hb11 : Bl wr w11 := by rw [hw11]; exact (Bl.refl _).alloc _
              rw [← hw11, ← hq]
              clear hw11 hq x0 x1 x2 x3 x4 x5 x6
              have hbr2 := hbr.trans hb11
              have HOw2 := Lib.hid (own_bl HOw.out hb11)
              have k1 := bq.all7'
              obtain ⟨db, hdb2⟩ : ∃ x, x = doubtB dm s := ⟨_, rfl⟩
              have HD2 := Lib.hid hdb2
              clear hdb2 HOw
              go_upto_region 14 with fail
              go_cut [105] from 84 to 105 (fun s105 wc => s105 = .bool db ∧ wc = w11)
              case first =>
                by_cases e1 : s.t = [32]
                · have HV := Lib.hid (show db = false by rw [HD2.out]; unfold doubtB; rw [decide_eq_false (by simp [e1])]; rfl)
                  go_wp2_with fail
                  go_meet
                  case rel => exact ⟨by rw [HV.out], rfl⟩
                · by_cases e2 : s.d < 0
                  · have HV := Lib.hid (show db = true by rw [HD2.out]; unfold doubtB; rw [decide_eq_true e1, decide_eq_true e2]; rfl)
                    go_wp2_with fail
                    go_meet
                    case rel => exact ⟨by rw [HV.out] <;> simp [e1], rfl⟩
                  · by_cases e3 : 0 ≤ s.e
                    · by_cases e4 : s.e - s.d ≤ dm
                      · have HV := Lib.hid (show db = true by rw [HD2.out]; unfold doubtB; rw [decide_eq_true e1, decide_eq_true e3, decide_eq_true e4]; simp)
                        go_wp2_with fail
                        go_meet
                        case rel => exact ⟨by rw [HV.out] <;> simp [e1], rfl⟩
                      · have HV := Lib.hid (show db = false by rw [HD2.out]; unfold doubtB; rw [decide_eq_false e2, decide_eq_false e4]; simp)
                        go_wp2_with fail
                        go_meet
                        case rel => exact ⟨by rw [HV.out] <;> simp [e1], rfl⟩
                    · have HV := Lib.hid (show db = false by rw [HD2.out]; unfold doubtB; rw [decide_eq_false e2, decide_eq_false e3]; simp)
                      go_wp2_with fail
                      go_meet
                      case rel => exact ⟨by rw [HV.out] <;> simp [e1], rfl⟩
              case rest =>
                obtain ⟨rfl, rfl⟩ := hcut
                clear k1
                cases db
                · have HE := Lib.hid (show doubtsTo dm ss (k + 1) = doubtsTo dm ss k by rw [HDs.out, ← HD2.out]; rfl)
                  go_wp2_with fail
                  exact ⟨⟨k + 1, hlt, by go_num, by rw [HTs.out, ← ba_append], hbr2, by rw [HE.out, ← HNd.out]; exact HOw2.out⟩, by simp [RowKit.intOf]; omega⟩
                · have HE := Lib.hid (show doubtsTo dm ss (k + 1) = doubtsTo dm ss k ++ [k] by rw [HDs.out, ← HD2.out]; rfl)
                  go_wp2_with (at_builtin; refine wpList_append_one (w1 := w10) rfl (.tmp 106) (.tmp 108) 83 rfl 3 (.int .i64 0) 8 Tryd.underlying83 info_int rfl w10.heap.size _ nd (natCells (doubtsTo dm ss k)) rfl (.int .i64 k) rfl rfl hbr2 (Nat.le_refl _) (by have := hbr2.le; omega) HOw2.out (by omega) (by unfold maxLen; omega) ?_; intro v' w18 hown8 hb8 hg8)
                  have h8 : w18.ownsRow w10.heap.size 3 1 v' (doubtsTo dm ss (k + 1)).length (natCells (doubtsTo dm ss (k + 1))) := by
                    rw [HE.out, List.length_append, ← HNd.out]
                    unfold natCells
                    rw [List.map_append]
                    exact hown8
                  have H8 := Lib.hid h8; have Hb8 := Lib.hid hb8
                  clear h8 hown8 hb8 hg8
                  go_wp2_with fail
                  exact ⟨⟨k + 1, hlt, by go_num, by rw [HTs.out, ← ba_append], Hb8.out, H8.out⟩, by simp [RowKit.intOf]; omega⟩
            · obtain rfl : k = ss.length := by omega
              obtain ⟨xs, hxs⟩ : ∃ xs, xs = (doubtsTo dm ss ss.length).map (fun (j : Nat) => (j : Int)) := ⟨_, rfl⟩
              have hxn : natCells (doubtsTo dm ss ss.length) = xs.map (.int .i64) := by rw [hxs, List.map_map]; rfl
              have hxl : (doubtsTo dm ss ss.length).length = xs.length := by rw [hxs, List.length_map]
              have hown := HOw.out
              rw [hxn, hxl] at hown
              rw [hxl] at hdl
              obtain ⟨A3, c3, e3, hr3⟩ := own_reads hown
              injection e3 with q1 _ q3
              subst q1
              subst q3
              rw [text_take, hxl]
              have he := equalSeen_any R R2 d c2' ss wr (HR1.out.bl hbr) (HR2.out.bl hbr) (by omega)
              have ht := fun wx (hb : Bl wr wx) => text_any R d ss wx ((HR1.out.bl hbr).bl hb) (by omega) (fun s hs => (HSo.out s hs).1)
              have hd := fun wx (hb : Bl wr wx) => doubt_any R d ss dm wx ((HR1.out.bl hbr).bl hb) (by omega) (fun s hs => (HSo.out s hs).2)
              rw [hxn, hxl] at hd
              have He := Lib.hid he; have Ht := Lib.hid ht; have Hd := Lib.hid hd; have HR3 := Lib.hid hr3
              clear hown he ht hd hr3 hxs hxn HOw
              go_wp2_with fail
              refine He.out.mono ?_
              rintro e wa ⟨rfl, hba⟩
              go_wp2_with fail
              refine (Ht.out _ hba).mono ?_
              rintro e wb ⟨rfl, hbb⟩
              have hbrb := hba.trans hbb
              by_cases hbig : 1099511627776 < dm
              · go_wp2_with fail
                go_ret
                exact ⟨by simp, w2b.trans (hb910.trans (hbr.trans hbrb))⟩
              · go_wp2_with fail
                refine (Hd.out _ hbrb).mono ?_
                rintro e wd ⟨v4, rfl, hown4, hbd⟩
                obtain ⟨A4, c4, rfl, hr4, -⟩ := own_new hown4
                have heq := equalInts_any A4 R3 c4 c3' xs xs wd hr4 (HR3.out.bl (hbrb.trans hbd)) (by omega)
                have Heq := Lib.hid heq
                clear hown4 hr4 heq
                go_wp2_with fail
                refine Heq.out.mono ?_
                rintro e we ⟨rfl, hbe⟩
                go_wp2_with fail
                go_ret
                exact ⟨by simp, w2b.trans (hb910.trans (hbr.trans ((hbrb.trans hbd).trans hbe)))⟩

end Go.Proofs.YtkhajhcfplicpaaDoor
