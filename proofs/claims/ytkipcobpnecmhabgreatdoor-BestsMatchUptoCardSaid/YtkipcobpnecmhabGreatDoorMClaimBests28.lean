/- forms.Best. -/
import Derived.Test.YtkipcobpnecmhabGreatDoorMClaimBests23
import Derived.Test.YtkipcobpnecmhabGreatDoorMClaimBests19

namespace Go.Proofs.YtkipcobpnecmhabGreatDoor
open Go.RowKit Go.Shelf

theorem fnd_at {f : Frm} {cs : List Bool} {w : World} {A : Option Addr} {i : Nat} {a : Anc} (h : Reads w 3 A f.la.length (f.la.flatMap (fndCells f cs))) (hi : f.la[i]? = some a) : ∃ ad, A = some ad ∧ w.cell? (ad.add (i * 3)) = some (.int .i64 (foundA f cs a).1) ∧ w.cell? ⟨(ad.add (i * 3)).block, (ad.add (i * 3)).off + 1, none⟩ = some (.int .i64 (foundA f cs a).2.1) ∧
    w.cell? ⟨(ad.add (i * 3)).block, (ad.add (i * 3)).off + 2, none⟩ = some (.int .i64 (foundA f cs a).2.2) := by
  obtain ⟨ad, e, key⟩ := reads_flat (fndCells f cs) 3 (fun _ => rfl) h hi
  have k0 := key 0 _ (by omega) rfl
  have k1 := key 1 _ (by omega) rfl
  have k2 := key 2 _ (by omega) rfl
  rw [Addr.add_zero'] at k0
  rw [Addr.add_succ'] at k1 k2
  exact ⟨ad, e, k0, k1, k2⟩
set_option maxRecDepth 100000 in
set_option maxHeartbeats 8000000 in
theorem best_any (L : Option Addr) (c : Nat) (l : List Frm) (bW bH : Int) (C : Option Addr) (n cc : Nat) (cs : List Bool) (w : World) (hL : FrmsAt w L l) (hl : l.length ≤ 9223372036854775807) (hS : ∀ f ∈ l, f.small 1048576) (hC : Reads w 1 C n (cs.map .bool)) (hN : NumOk w) (hCo : SplitOk w) :
    Calls Tryz.prog 5 #[.slice L l.length c, .agg #[.int .i64 bW, .int .i64 bH, .slice C n cc]] w fun e w' => e = .returned (.tuple #[.int .i64 (bestsN bW bH n cs l).1, .int .i64 (bestsN bW bH n cs l).2.1, .int .i64 (bestsN bW bH n cs l).2.2]) ∧ Bl w w' := by
  obtain ⟨RN, hRN⟩ : ∃ r, r = bestsN bW bH n cs l := ⟨_, rfl⟩
  rw [← hRN]
  have herr : ∀ E, bestsErr bW bH n l = E → E ≠ 0 → RN = (0, 0, E) := fun E h1 h2 => by
    rw [hRN]; unfold bestsN; rw [h1, if_neg h2]
  have HErr := Lib.hid herr; have HRN := Lib.hid hRN
  let w1 := (w).alloc (.cells #[.int .i64 bW, .int .i64 bH, .slice C n cc] 25)
  have w1b : Bl w w1 := (Bl.refl w).alloc _
  have w11 : Blk w1 (w.heap.size) 25 #[.int .i64 bW, .int .i64 bH, .slice C n cc] := by
    have h0 := Blk.new (w) 25 #[.int .i64 bW, .int .i64 bH, .slice C n cc]
    exact h0
  have HL := Lib.hid (hL.bl w1b); have HN := Lib.hid (hN.bl w1b); have HCo := Lib.hid (hCo.bl w1b); have HC := Lib.hid (hC.bl w1b); have HS := Lib.hid hS
  have k1 := w11.all3
  have HW1b := Lib.hid w1b
  clear hL hN hCo hC hS w1b herr hRN
  go_enter Tryz.func5, Tryz.ntmps5
  go_upto_region 1 with fail
  rw [show w.alloc (.cells #[.int .i64 bW, .int .i64 bH, .slice C n cc] 25) = w1 from rfl]
  clear_value w1
  by_cases h100 : 100 < l.length
  · have h100i : 100 < (l.length : Int) := by omega
    have HX := Lib.hid (HErr.out 4 (by
      unfold bestsErr
      have h4 : errTo (whenI true 4) l 0 ≠ 0 := by show (4 : Int) ≠ 0; decide
      rw [decide_eq_true h100, errTo_stop (e0 := whenI true 4) (i := 0) h4 l.length (Nat.zero_le _)]
      exact firstNZ_stop h4) (by decide))
    go_wp2_with fail
    refine bodyPost_ret (v := .tuple #[.int .i64 0, .int .i64 0, .int .i64 4]) (by simp [results, Tryz.results5, go_sem]) rfl ⟨by rw [HX.out], HW1b.out⟩
  have h100i : ¬ 100 < (l.length : Int) := by omega
  have HBE := Lib.hid (show bestsErr bW bH n l = firstNZ [errTo 0 l l.length, pageErr bW bH n] by unfold bestsErr; rw [decide_eq_false h100, whenI_false])
  go_wp2_with fail
  go_loopw [25] (fun u wr => ∃ i : Nat, i ≤ l.length ∧ u = .int .i64 i ∧ Bl w1 wr ∧ errTo 0 l i = 0) (fun u _ => l.length - (RowKit.intOf u).toNat)
  case atStart => exact ⟨0, Nat.zero_le _, rfl, Bl.refl _, rfl⟩
  case round =>
    clear k1
    obtain ⟨i, hi, rfl, hbr, hes⟩ := hrel
    by_cases hlt : i < l.length
    · have hg : l[i]? = some l[i] := List.getElem?_eq_getElem hlt
      obtain ⟨f, hf⟩ : ∃ x, x = l[i] := ⟨_, rfl⟩
      rw [← hf] at hg
      obtain ⟨ad, e1, j1, j2, j3, j4, j5, j6, j7, j8⟩ := (HL.out.bl hbr).at_ hg
      subst e1
      have HG := Lib.hid hg; have HEs := Lib.hid hes; have Hbr := Lib.hid hbr
      have HFf := Lib.hid (HL.out.2 f (List.mem_of_getElem? hg))
      have hck := fun wx hF hN hC => checkF_any f wx hF (HS.out f (List.mem_of_getElem? hg)) hN hC
      unfold Frm.val at hck
      obtain ⟨FE, hFE⟩ : ∃ e, e = f.err := ⟨_, rfl⟩
      rw [← hFE] at hck
      have Hst := Lib.hid (show errTo 0 l (i + 1) = FE by rw [errTo_succ hg, if_pos hes, hFE])
      have Hck := Lib.hid hck
      clear hg hf hes hck hFE
      go_upto_region 6 with fail
      obtain ⟨w5, hw5⟩ : ∃ x, x = wr.alloc (.cells #[.string ⟨f.name.toArray⟩, .int .i64 f.W, .int .i64 f.H, .int .i64 f.reach, .int .i64 f.dark, .slice f.AL f.la.length f.ac, .slice f.FL f.lf.length f.fc, .slice f.RL f.lr.length f.rc] 34) := ⟨_, rfl⟩
      have b5 : Blk w5 wr.heap.size 34 #[.string ⟨f.name.toArray⟩, .int .i64 f.W, .int .i64 f.H, .int .i64 f.reach, .int .i64 f.dark, .slice f.AL f.la.length f.ac, .slice f.FL f.lf.length f.fc, .slice f.RL f.lr.length f.rc] := by rw [hw5]; exact Blk.new _ _ _
      have hb5 : Bl wr w5 := by rw [hw5]; exact (Bl.refl _).alloc _
      rw [← hw5]
      have Hb5 := Lib.hid (hbr.trans hb5)
      have k2 := b5.all8
      clear hw5 b5 hb5 hbr j1 j2 j3 j4 j5 j6 j7 j8
      go_wp2_with fail
      refine (Hck.out _ (HFf.out.bl Hb5.out) (HN.out.bl Hb5.out) (HCo.out.bl Hb5.out)).mono ?_
      rintro e w6 ⟨rfl, hb6⟩
      have Hb6 := Lib.hid (Hb5.out.trans hb6)
      clear k2 hb6
      by_cases hz : FE = 0
      · have hq : (FE != 0) = false := by simp [hz]
        have HX := Lib.hid (show errTo 0 l (i + 1) = 0 by rw [Hst.out, hz])
        clear hz
        go_wp2_with fail
        exact ⟨⟨i + 1, hlt, by go_num, Hb6.out, HX.out⟩, by simp [RowKit.intOf]; omega⟩
      · have hq : (FE != 0) = true := by simp [hz]
        have HX := Lib.hid (HErr.out FE (by
          rw [HBE.out, errTo_stop (i := i + 1) (by rw [Hst.out]; exact hz) l.length (by omega), Hst.out]
          exact firstNZ_stop hz) hz)
        clear hz
        go_wp2_with fail
        refine bodyPost_ret (v := .tuple #[.int .i64 0, .int .i64 0, .int .i64 FE]) (by simp [results, Tryz.results5, go_sem]) rfl ⟨by rw [HX.out], HW1b.out.trans Hb6.out⟩
    · obtain rfl : i = l.length := by omega
      have Her := Lib.hid hes; have Hbr := Lib.hid hbr
      have k1 := (w11.bl hbr).all3
      clear hes hbr hi hlt
      go_wp2_with fail
      refine (checkBits_any _ _ _ _ _ _).mono ?_
      rintro e w2 ⟨rfl, hb2⟩
      have Hb2 := Lib.hid (Hbr.out.trans hb2)
      clear hb2 k1
      by_cases hp : pageErr bW bH n = 0
      case neg =>
        have hq : (pageErr bW bH n != 0) = true := by simp [hp]
        have HX := Lib.hid (HErr.out (pageErr bW bH n) (by rw [HBE.out, Her.out, firstNZ_0, firstNZ_stop hp]) hp)
        clear hp
        go_wp2_with fail
        refine bodyPost_ret (v := .tuple #[.int .i64 0, .int .i64 0, .int .i64 (pageErr bW bH n)]) (by simp [results, Tryz.results5, go_sem]) rfl ⟨by rw [HX.out], HW1b.out.trans Hb2.out⟩
      have hq : (pageErr bW bH n != 0) = false := by simp [hp]
      obtain ⟨SC, hSC⟩ : ∃ s : Frm → Int, s = fun f => scoreF f cs := ⟨_, rfl⟩
      have HSC := Lib.hid (show ∀ f, SC f = scoreF f cs from fun f => by rw [hSC])
      have HRB := Lib.hid (show RN = if (bestTo bW bH SC l l.length).1 < 0 then (0, 0, 10) else ((bestTo bW bH SC l l.length).1, (bestTo bW bH SC l l.length).2, 0) by
        rw [HRN.out, hSC]; unfold bestsN
        rw [if_pos (show bestsErr bW bH n l = 0 by rw [HBE.out, Her.out, firstNZ_0, firstNZ_eq hp]; rfl)])
      obtain ⟨W, H, q1, q2, q3, -, -, -⟩ := page_nat hp
      subst q1 q2 q3
      clear hSC hp
      go_wp2_with fail
      go_loopw [11, 12, 42] (fun x y u wr => ∃ i : Nat, i ≤ l.length ∧ u = .int .i64 i ∧ x = .int .i64 (bestTo W H SC l i).1 ∧ y = .int .i64 (bestTo W H SC l i).2 ∧ Bl w1 wr) (fun _ _ u _ => l.length - (RowKit.intOf u).toNat)
      case atStart => exact ⟨0, Nat.zero_le _, rfl, rfl, rfl, Hb2.out⟩
      case round =>
        rename World => wq
        obtain ⟨i, hi, rfl, rfl, rfl, hbr⟩ := hrel
        by_cases hlt : i < l.length
        · have hg : l[i]? = some l[i] := List.getElem?_eq_getElem hlt
          obtain ⟨f, hf⟩ : ∃ x, x = l[i] := ⟨_, rfl⟩
          rw [← hf] at hg
          obtain ⟨ad, e1, j1, j2, j3, j4, j5, j6, j7, j8⟩ := (HL.out.bl hbr).at_ hg
          subst e1
          have HG := Lib.hid hg; have Hbr2 := Lib.hid hbr
          have HFf := Lib.hid (HL.out.2 f (List.mem_of_getElem? hg))
          have hf0 := errTo_each Her.out hlt hg
          obtain ⟨W', H', r, hfit⟩ := fits_of hf0
          have Hfit := Lib.hid hfit
          obtain ⟨bi, hbi⟩ : ∃ b, b = (bestTo W H SC l i).1 := ⟨_, rfl⟩
          obtain ⟨li, hli⟩ : ∃ b, b = (bestTo W H SC l i).2 := ⟨_, rfl⟩
          have hbs := bestTo_succ (W := W) (H := H) (sc := SC) hg
          rw [← hbi, ← hli] at hbs
          rw [← hbi, ← hli]
          have Hbs := Lib.hid hbs; have Hbi := Lib.hid hbi; have Hli := Lib.hid hli
          clear hg hf hf0 hfit hbs hbi hli
          go_upto_region 17 with fail
          obtain ⟨w5, hw5⟩ : ∃ x, x = wq.alloc (.cells #[.string ⟨f.name.toArray⟩, .int .i64 f.W, .int .i64 f.H, .int .i64 f.reach, .int .i64 f.dark, .slice f.AL f.la.length f.ac, .slice f.FL f.lf.length f.fc, .slice f.RL f.lr.length f.rc] 34) := ⟨_, rfl⟩
          have b5 : Blk w5 wq.heap.size 34 #[.string ⟨f.name.toArray⟩, .int .i64 f.W, .int .i64 f.H, .int .i64 f.reach, .int .i64 f.dark, .slice f.AL f.la.length f.ac, .slice f.FL f.lf.length f.fc, .slice f.RL f.lr.length f.rc] := by rw [hw5]; exact Blk.new _ _ _
          have hb5 : Bl wq w5 := by rw [hw5]; exact (Bl.refl _).alloc _
          rw [← hw5]
          have Hb5 := Lib.hid (hbr.trans hb5); have B5 := Lib.hid b5
          have k1 := (w11.bl Hb5.out).all3
          have k2 := b5.all8
          clear hw5 b5 hb5 hbr j1 j2 j3 j4 j5 j6 j7 j8
          by_cases cW : (W : Int) = f.W
          case neg =>
            have q4 : ((W : Int) != f.W) = true := by simpa using cW
            have HX := Lib.hid (show bestTo W H SC l (i + 1) = bestTo W H SC l i by rw [Hbs.out, if_neg (fun h => cW h.1.symm)])
            clear cW
            go_wp2_with fail
            exact ⟨⟨i + 1, hlt, by go_num, by rw [HX.out, ← Hbi.out], by rw [HX.out, ← Hli.out], Hb5.out⟩, by simp [RowKit.intOf]; omega⟩
          have q4 : ((W : Int) != f.W) = false := by simpa using cW
          have Hfw := Lib.hid cW.symm
          by_cases cH : (H : Int) = f.H
          case neg =>
            have q5 : ((H : Int) != f.H) = true := by simpa using cH
            have HX := Lib.hid (show bestTo W H SC l (i + 1) = bestTo W H SC l i by rw [Hbs.out, if_neg (fun h => cH h.2.1.symm)])
            clear cW cH
            go_wp2_with fail
            exact ⟨⟨i + 1, hlt, by go_num, by rw [HX.out, ← Hbi.out], by rw [HX.out, ← Hli.out], Hb5.out⟩, by simp [RowKit.intOf]; omega⟩
          have q5 : ((H : Int) != f.H) = false := by simpa using cH
          have Hfh := Lib.hid cH.symm
          obtain rfl : W = W' := by have := Hfit.out.fW; omega
          obtain rfl : H = H' := by have := Hfit.out.fH; omega
          obtain ⟨sf, hsf⟩ : ∃ s, s = SC f := ⟨_, rfl⟩
          have Hsf := Lib.hid hsf.symm
          have hsf2 : sf = if f.la.length = 0 then 1000 else 1000 * sumTo (distA f cs) f.la f.la.length / sumTo areaA f.la f.la.length := by rw [hsf, HSC.out]; rfl
          have Hsf2 := Lib.hid hsf2
          clear cW cH hsf hsf2
          go_upto_region 18 with fail
          by_cases hl0 : f.la.length = 0
          · have hl0i : ¬ 0 < (f.la.length : Int) := by omega
            obtain rfl : sf = 1000 := by rw [Hsf2.out, if_pos hl0]
            clear hl0
            by_cases c1 : bi < 0
            · have HX := Lib.hid (show bestTo W H SC l (i + 1) = ((i : Int), 1000) by rw [Hbs.out, if_pos ⟨Hfw.out, Hfh.out, .inl c1⟩, Hsf.out])
              go_wp2_with fail
              exact ⟨⟨i + 1, hlt, by go_num, by rw [HX.out], by first | (rw [HX.out]; done) | (rw [HX.out]; exact congrArg (Value.int .i64) hsf4), Hb5.out⟩, by simp [RowKit.intOf]; omega⟩
            · by_cases c2 : 1000 < li
              · have HX := Lib.hid (show bestTo W H SC l (i + 1) = ((i : Int), 1000) by rw [Hbs.out, if_pos ⟨Hfw.out, Hfh.out, .inr (by rw [Hsf.out]; exact c2)⟩, Hsf.out])
                go_wp2_with fail
                exact ⟨⟨i + 1, hlt, by go_num, by rw [HX.out], by first | (rw [HX.out]; done) | (rw [HX.out]; exact congrArg (Value.int .i64) hsf4), Hb5.out⟩, by simp [RowKit.intOf]; omega⟩
              · have HX := Lib.hid (show bestTo W H SC l (i + 1) = bestTo W H SC l i by rw [Hbs.out, if_neg (fun h => by rcases h.2.2 with h | h; exact c1 h; rw [Hsf.out] at h; exact c2 h)])
                go_wp2_with fail
                exact ⟨⟨i + 1, hlt, by go_num, by rw [HX.out, ← Hbi.out], by rw [HX.out, ← Hli.out], Hb5.out⟩, by simp [RowKit.intOf]; omega⟩
          · have hl0i : 0 < (f.la.length : Int) := by omega
            have Hsf3 := Lib.hid (show sf = 1000 * sumTo (distA f cs) f.la f.la.length / sumTo areaA f.la f.la.length by rw [Hsf2.out, if_neg hl0])
            have hpos : 0 < f.la.length := by omega
            clear hl0
            have han := anchors_any f C cc cs W H r w5 Hfit.out (HFf.out.bl Hb5.out) (HC.out.bl Hb5.out)
            unfold Frm.val at han
            have Han := Lib.hid han
            have Hds := Lib.hid (sumTo_bd (Hfit.out.dist cs)); have Har := Lib.hid (sumTo_bd Hfit.out.area)
            obtain ⟨D, hD⟩ : ∃ D, D = distA f cs := ⟨_, rfl⟩
            have HDv := Lib.hid (show ∀ a, D a = (foundA f cs a).2.2 from fun a => by rw [hD]; rfl)
            rw [← hD] at Hds Hsf3
            have hla10 : f.la.length ≤ 10 := Hfit.out.hla
            clear han hD
            go_wp2_with fail
            refine Han.out.mono ?_
            rintro e w6 ⟨A, ca, rfl, hra, hb6⟩
            have Hra := Lib.hid hra; have Hb6 := Lib.hid (Hb5.out.trans hb6)
            have B6 := Lib.hid (B5.out.bl hb6)
            obtain ⟨adA, hA, -⟩ := hra.2 hpos
            subst hA
            clear hra hb6 k1 k2
            go_wp2_with fail
            go_loopw [16, 17, 67] (fun s p u wy => ∃ k : Nat, k ≤ f.la.length ∧ u = .int .i64 k ∧ s = .int .i64 (sumTo D f.la k) ∧ p = .int .i64 (sumTo areaA f.la k) ∧ Bl w6 wy) (fun _ _ u _ => f.la.length - (RowKit.intOf u).toNat)
            case atStart => exact ⟨0, Nat.zero_le _, rfl, rfl, rfl, Bl.refl _⟩
            case round =>
              rename World => wy
              obtain ⟨k, hk, rfl, rfl, rfl, hby⟩ := hrel
              have hd := Hds.out k hk
              have ha := Har.out k hk
              by_cases hlk : k < f.la.length
              · have hg : f.la[k]? = some f.la[k] := List.getElem?_eq_getElem hlk
                obtain ⟨a, ha2⟩ : ∃ x, x = f.la[k] := ⟨_, rfl⟩
                rw [← ha2] at hg
                obtain ⟨ad2, e2, j1, j2, j3⟩ := fnd_at (Hra.out.bl hby) hg
                obtain rfl := Option.some.inj e2
                obtain ⟨adL, e3, i1, i2, i3, i4, i5⟩ := (HFf.out.ancs.bl (Hb6.out.trans hby)).at_ hg
                obtain ⟨BW, BH, q1, q2, q3, q6, q7, q8, q9, q10⟩ := Hfit.out.at_ (List.mem_of_getElem? hg)
                have hs1 := sumTo_succ (g := D) hg
                have hs2 := sumTo_succ (g := areaA) hg
                have hd1 := Hds.out (k + 1) hlk
                have ea : areaA a = ((BW * BH : Nat) : Int) := by unfold areaA; rw [q1, q2]; simp
                rw [hs1] at hd1
                rw [ea] at hs2
                obtain ⟨s1, hs1'⟩ : ∃ s, s = sumTo D f.la k := ⟨_, rfl⟩
                obtain ⟨s2, hs2'⟩ : ∃ s, s = sumTo areaA f.la k := ⟨_, rfl⟩
                obtain ⟨dd, hdd⟩ : ∃ s, s = D a := ⟨_, rfl⟩
                obtain ⟨M, hM⟩ : ∃ s, s = BW * BH := ⟨_, rfl⟩
                rw [← hM] at hs2 q7 q8 q3
                rw [← hs1'] at hs1 hd1 hd ⊢
                rw [← hs2'] at hs2 ha ⊢
                rw [← hdd] at hs1 hd1
                rw [← HDv.out, ← hdd] at j3
                rw [q3] at i3
                generalize (foundA f cs a).1 = fx at j1
                generalize (foundA f cs a).2.1 = fy at j2
                have Hs1 := Lib.hid hs1; have Hs2 := Lib.hid hs2; have Hby := Lib.hid hby
                have bd1 : -1000000000 ≤ s1 ∧ s1 ≤ 1000000000 := by omega
                have bd2 : -1000000000 ≤ s2 ∧ s2 ≤ 1000000000 := by omega
                have bd3 : -1000000000 ≤ s1 + dd ∧ s1 + dd ≤ 1000000000 := by omega
                have k2 := (B6.out.bl hby).all8
                rw [e3] at k2
                have hkl : (k : Int) < (f.la.length : Int) := by omega
                clear hg ha2 hs1 hs2 hs1' hs2' hdd hM q1 q2 q3 q6 ea hd ha hd1 e2 i1 i2 i4 i5
                go_upto_region 24 with fail
                obtain ⟨w8, hw8⟩ : ∃ x, x = wy.alloc (.cells #[.int .i64 fx, .int .i64 fy, .int .i64 dd] 55) := ⟨_, rfl⟩
                have b8 : Blk w8 wy.heap.size 55 #[.int .i64 fx, .int .i64 fy, .int .i64 dd] := by rw [hw8]; exact Blk.new _ _ _
                have hb8 : Bl wy w8 := by rw [hw8]; exact (Bl.refl _).alloc _
                rw [← hw8]
                have i3' := hb8.at i3
                have k2 := (B6.out.bl (Hby.out.trans hb8)).all8
                rw [e3] at k2
                have k3 := b8.all3
                have Hb8 := Lib.hid (Hby.out.trans hb8)
                clear hw8 b8 hb8 j1 j2 j3 i3 hby
                go_wp2_with fail
                exact ⟨⟨k + 1, hlk, by go_num, by rw [Hs1.out], by rw [Hs2.out], Hb8.out⟩, by simp [RowKit.intOf]; omega⟩
              · obtain rfl : k = f.la.length := by omega
                obtain ⟨s1, hs1'⟩ : ∃ s, s = sumTo D f.la f.la.length := ⟨_, rfl⟩
                obtain ⟨s2, hs2'⟩ : ∃ s, s = sumTo areaA f.la f.la.length := ⟨_, rfl⟩
                rw [← hs1'] at Hsf3 hd ⊢
                rw [← hs2'] at Hsf3 ha ⊢
                have b1 : 0 ≤ s1 ∧ s1 ≤ 1000000000 := by omega
                have b2 : 1 ≤ s2 ∧ s2 ≤ 1000000000 := by omega
                have hsf4 : 1000 * s1 / s2 = sf := Hsf3.out.symm
                have Hbz := Lib.hid (Hb6.out.trans hby)
                clear hs1' hs2' hd ha hby
                by_cases c1 : bi < 0
                · have HX := Lib.hid (show bestTo W H SC l (i + 1) = ((i : Int), sf) by rw [Hbs.out, if_pos ⟨Hfw.out, Hfh.out, .inl c1⟩, Hsf.out])
                  go_wp2_with fail
                  exact ⟨⟨i + 1, hlt, by go_num, by rw [HX.out], by first | (rw [HX.out]; done) | (rw [HX.out]; exact congrArg (Value.int .i64) hsf4), Hbz.out⟩, by simp [RowKit.intOf]; omega⟩
                · by_cases c2 : sf < li
                  · have HX := Lib.hid (show bestTo W H SC l (i + 1) = ((i : Int), sf) by rw [Hbs.out, if_pos ⟨Hfw.out, Hfh.out, .inr (by rw [Hsf.out]; exact c2)⟩, Hsf.out])
                    go_wp2_with fail
                    exact ⟨⟨i + 1, hlt, by go_num, by rw [HX.out], by first | (rw [HX.out]; done) | (rw [HX.out]; exact congrArg (Value.int .i64) hsf4), Hbz.out⟩, by simp [RowKit.intOf]; omega⟩
                  · have HX := Lib.hid (show bestTo W H SC l (i + 1) = bestTo W H SC l i by rw [Hbs.out, if_neg (fun h => by rcases h.2.2 with h | h; exact c1 h; rw [Hsf.out] at h; exact c2 h)])
                    go_wp2_with fail
                    exact ⟨⟨i + 1, hlt, by go_num, by rw [HX.out, ← Hbi.out], by rw [HX.out, ← Hli.out], Hbz.out⟩, by simp [RowKit.intOf]; omega⟩
        · obtain rfl : i = l.length := by omega
          obtain ⟨bi, hbi⟩ : ∃ b, b = (bestTo W H SC l l.length).1 := ⟨_, rfl⟩
          obtain ⟨li, hli⟩ : ∃ b, b = (bestTo W H SC l l.length).2 := ⟨_, rfl⟩
          rw [← hbi, ← hli] at HRB
          rw [← hbi, ← hli]
          by_cases c1 : bi < 0
          · have HX := Lib.hid (show RN = (0, 0, 10) by rw [HRB.out, if_pos c1])
            go_wp2_with fail
            refine bodyPost_ret (v := .tuple #[.int .i64 0, .int .i64 0, .int .i64 10]) (by simp [results, Tryz.results5, go_sem]) rfl ⟨by rw [HX.out], HW1b.out.trans hbr⟩
          · have HX := Lib.hid (show RN = (bi, li, 0) by rw [HRB.out, if_neg c1])
            clear hbi hli
            go_wp2_with fail
            refine bodyPost_ret (v := .tuple #[.int .i64 bi, .int .i64 li, .int .i64 0]) (by simp [results, Tryz.results5, go_sem]) rfl ⟨by rw [HX.out], HW1b.out.trans hbr⟩
end Go.Proofs.YtkipcobpnecmhabGreatDoor
