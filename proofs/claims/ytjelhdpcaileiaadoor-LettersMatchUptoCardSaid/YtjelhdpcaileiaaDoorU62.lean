/- glyph.Fit. -/
import Derived.Test.YtjelhdpcaileiaaDoorU50

namespace Go.Proofs.YtjelhdpcaileiaaDoor
open Go.RowKit Go.Shelf

theorem cat_ba (a b : List UInt8) : (ByteArray.mk a.toArray ++ ByteArray.mk b.toArray) = ByteArray.mk (a ++ b).toArray := by
  apply ByteArray.ext
  simp [ByteArray.data_append]
theorem cat_word (l w : List UInt8) : (ByteArray.mk l.toArray ++ ByteArray.mk #[32]) ++ ByteArray.mk w.toArray = ByteArray.mk (l ++ 32 :: w).toArray := by
  rw [show ByteArray.mk #[32] = ByteArray.mk [32].toArray from rfl, cat_ba, cat_ba]
  simp
theorem cat_word2 (l w : List UInt8) : ByteArray.mk l.toArray ++ (ByteArray.mk #[32] ++ ByteArray.mk w.toArray) = ByteArray.mk (l ++ 32 :: w).toArray := by
  rw [show ByteArray.mk #[32] = ByteArray.mk [32].toArray from rfl, cat_ba, cat_ba]
  simp
theorem own_at {w : World} {base : Nat} {e : TypeId} {n g cap : Nat} {xs : List Value} (h : w.ownsRow base e 1 (.slice (some ⟨g, 0, none⟩) n cap) n xs) {j : Nat} {u : Value} (hj : xs[j]? = some u) : w.cell? ⟨g, j, none⟩ = some u := by
  obtain ⟨A, c, e2, hr⟩ := own_reads h
  injection e2 with e1 _ _
  subst e1
  have hlt : j < xs.length := (List.getElem?_eq_some_iff.1 hj).1
  have hn : 0 < n := by
    rcases Nat.eq_zero_or_pos n with h0 | h0
    · have := hr.1; rw [h0, Nat.zero_mul] at this; omega
    · exact h0
  obtain ⟨ad, e3, hc⟩ := hr.2 hn
  injection e3 with e3
  subst e3
  have := hc j u hj
  rwa [add_flat] at this
theorem words_len {ls : List Ltr} {t : List UInt8} (h : textErr ls t = 0) : (wordsOf t).length ≤ 201 := by
  obtain ⟨h1, -⟩ := textErr_zero h
  obtain ⟨-, h2, -⟩ := lineErr_zero h1
  have key : ∀ (ws : List (List UInt8)), ws.length ≤ (joinW ws).length + 1 := by
    intro ws
    induction ws with
    | nil => simp
    | cons x l ih =>
      cases l with
      | nil => simp
      | cons y l =>
        show (y :: l).length + 1 ≤ (x ++ 32 :: joinW (y :: l)).length + 1
        rw [List.length_append, List.length_cons (a := 32)]
        omega
  have h3 := key (wordsOf t)
  rw [(wordsOf_spec _ t (Nat.le_refl _)).2.1] at h3
  omega
theorem fit_len (ls : List Ltr) (gap sp : Nat) (most : Int) (ws : List (List UInt8)) : ∀ i, i ≤ ws.length → (fitTo ls gap sp most ws i).length ≤ i
  | 0, _ => Nat.le_refl _
  | i + 1, hi => by
    have ih := fit_len ls gap sp most ws i (by omega)
    rw [fitTo_succ (List.getElem?_eq_getElem (by omega))]
    rcases List.eq_nil_or_concat (fitTo ls gap sp most ws i) with e | ⟨pre, l, e⟩
    · rw [e, fitStep_nil]; simp
    · rw [List.concat_eq_append] at e
      rw [e] at ih ⊢
      rw [fitStep_last]
      rw [List.length_append] at ih
      simp at ih
      split <;> simp <;> omega

end Go.Proofs.YtjelhdpcaileiaaDoor


/-! glyph.Fit. -/
namespace Go.Proofs.YtjelhdpcaileiaaDoor
open Go.RowKit Go.Shelf

def fitErr (fe : Int) (ls : List Ltr) (t : List UInt8) (most : Int) : Int := if fe = 0 then firstNZ [textErr ls t, whenI (!inB most 1 4000) 3] else fe
def FitRes (fe : Int) (ls : List Ltr) (gap sp : Int) (t : List UInt8) (most : Int) (w : World) (e : Ending) (w' : World) : Prop := ∃ R m d err, e = .returned (.tuple #[.slice R m d, .int .i64 err]) ∧ err = fitErr fe ls t most ∧ (err ≠ 0 → R = none ∧ m = 0) ∧
    (err = 0 → m = (fitTo ls gap.toNat sp.toNat most (wordsOf t) (wordsOf t).length).length ∧ Reads w' 1 R m (strCells' (fitTo ls gap.toNat sp.toNat most (wordsOf t) (wordsOf t).length))) ∧ m ≤ d ∧ Bl w w'
theorem fit_bad {fe : Int} {ls : List Ltr} {gap sp : Int} {t : List UInt8} {most : Int} {w w' : World} {err : Int} (h : fitErr fe ls t most = err) (hz : err ≠ 0) (hb : Bl w w') : FitRes fe ls gap sp t most w (.returned (.tuple #[.slice none 0 0, .int .i64 err])) w' :=
  ⟨none, 0, 0, err, rfl, h.symm, fun _ => ⟨rfl, rfl⟩, fun h => absurd h hz, Nat.le_refl _, hb⟩
theorem own_cap {w : World} {base : Nat} {e : TypeId} {size n m cap : Nat} {A : Option Addr} {xs : List Value} (h : w.ownsRow base e size (.slice A m cap) n xs) : n ≤ cap := by
  rcases h.2 with ⟨hv, hn⟩ | ⟨g', cap', cur, hv, -, hg, hn, -⟩
  · injection hv with h1 h2 h3
    omega
  · injection hv with h1 h2 h3
    omega

set_option maxRecDepth 100000 in
set_option maxHeartbeats 2000000 in
theorem fitG_any (nm : List UInt8) (ht gap sp : Int) (L : Option Addr) (c : Nat) (ls : List Ltr) (t : List UInt8) (most : Int) (w : World) (hL : LtrsAt w L ls) (hnm : nm.length ≤ 9223372036854775807) (hn : ls.length ≤ 9223372036854775807) (htl : t.length ≤ 1048576) (hv : SubOk w) :
    Calls Tryd.prog 28 #[.agg #[.string ⟨nm.toArray⟩, .int .i64 ht, .int .i64 gap, .int .i64 sp, .slice L ls.length c], .string ⟨t.toArray⟩, .int .i64 most] w (FitRes (fontErr (nameB nm) ht gap sp ls) ls gap sp t most w) := by
  let w2 := (w).alloc (.cells #[.string ⟨nm.toArray⟩, .int .i64 ht, .int .i64 gap, .int .i64 sp, .slice L ls.length c] 24)
  have w2b : Bl w w2 := (Bl.refl w).alloc _
  have w21 : Blk w2 (w.heap.size) 24 #[.string ⟨nm.toArray⟩, .int .i64 ht, .int .i64 gap, .int .i64 sp, .slice L ls.length c] := by
    have h0 := Blk.new (w) 24 #[.string ⟨nm.toArray⟩, .int .i64 ht, .int .i64 gap, .int .i64 sp, .slice L ls.length c]
    exact h0
  have lw2 : w2.heap.size = w.heap.size + 1 := by simp [w2]
  have HL := Lib.hid (hL.bl w2b)
  have HV := Lib.hid (hv.bl w2b)
  obtain ⟨fe, hfe⟩ : ∃ x, x = fontErr (nameB nm) ht gap sp ls := ⟨_, rfl⟩
  have hck := check_any nm ht gap sp L c ls w2 (hL.bl w2b) hnm hn
  rw [← hfe] at hck ⊢
  have Hck := Lib.hid hck; have HFe := Lib.hid hfe
  have k1 := w21.all5
  clear hL hck hfe hv
  go_enter Tryd.func28, Tryd.ntmps28
  go_wp2_with fail
  refine Hck.out.mono ?_
  rintro e w3 ⟨rfl, hb3⟩
  clear_value w2
  clear k1 Hck
  by_cases hz : fe = 0
  case neg =>
    have hq : (fe != 0) = true := by simp [hz]
    have hq2 : (fe == 0) = false := by simp [hz]
    have HZ := Lib.hid hz
    have HE := Lib.hid (show fitErr fe ls t most = fe from if_neg hz)
    clear hz
    go_wp2_with fail
    exact bodyPost_ret (v := .tuple #[.slice none 0 0, .int .i64 fe]) (by simp [results, Tryd.results28, go_sem]) rfl (fit_bad HE.out HZ.out (w2b.trans hb3))
  case pos =>
    subst hz
    obtain ⟨ht', gap', sp', rfl, rfl, rfl, hR⟩ := right_of HFe.out.symm
    obtain ⟨adl, rfl⟩ := some_at HL.out hR.many.1
    have hs := spelledG_any nm ht' gap' sp' adl c ls t w3 (HL.out.bl hb3) hR (Nat.le_trans htl (by decide)) (HV.out.bl hb3)
    have Hs := Lib.hid hs; have HR := Lib.hid hR
    have k1 := (w21.bl hb3).all5
    clear hs hR
    go_wp2_with fail
    refine Hs.out.mono ?_
    rintro e w4 ⟨R, m, d, wd, err, rfl, herr, -, -, hb34⟩
    have HErr := Lib.hid herr
    have hb4 := hb3.trans hb34
    clear k1 Hs herr
    by_cases hz : err = 0
    case neg =>
      have hq : (err != 0) = true := by simp [hz]
      have hq2 : (err == 0) = false := by simp [hz]
      have HZ := Lib.hid hz
      have HE := Lib.hid (show fitErr 0 ls t most = err by
        unfold fitErr
        rw [if_pos rfl, ← HErr.out]
        show (if err = 0 then _ else err) = err
        rw [if_neg hz])
      clear hz
      go_wp2_with fail
      exact bodyPost_ret (v := .tuple #[.slice none 0 0, .int .i64 err]) (by simp [results, Tryd.results28, go_sem]) rfl (fit_bad HE.out HZ.out (w2b.trans hb4))
    case pos =>
      subst hz
      have hte := HErr.out.symm
      have hE0 : fitErr 0 ls t most = whenI (!inB most 1 4000) 3 := by
        unfold fitErr
        rw [if_pos rfl, hte]
        cases inB most 1 4000 <;> rfl
      have HE0 := Lib.hid hE0
      clear hE0
      by_cases c1 : most < 1
      · have HE := Lib.hid (show fitErr 0 ls t most = 3 by
          have h : inB most 1 4000 = false := inB_false.2 (.inl c1)
          rw [HE0.out, h]; rfl)
        clear hte
        go_wp2_with fail
        exact bodyPost_ret (v := .tuple #[.slice none 0 0, .int .i64 3]) (by simp [results, Tryd.results28, go_sem]) rfl (fit_bad HE.out (by decide) (w2b.trans hb4))
      · by_cases c2 : 4000 < most
        · have HE := Lib.hid (show fitErr 0 ls t most = 3 by
            have h : inB most 1 4000 = false := inB_false.2 (.inr c2)
            rw [HE0.out, h]; rfl)
          clear hte
          go_wp2_with fail
          exact bodyPost_ret (v := .tuple #[.slice none 0 0, .int .i64 3]) (by simp [results, Tryd.results28, go_sem]) rfl (fit_bad HE.out (by decide) (w2b.trans hb4))
        · have HE := Lib.hid (show fitErr 0 ls t most = 0 by
            have h : inB most 1 4000 = true := inB_true.2 ⟨by omega, by omega⟩
            rw [HE0.out, h]; rfl)
          have HTe := Lib.hid hte
          have htl2 := (lineErr_zero (textErr_zero hte).1).2.1
          have hsp := split_any t w4 (by omega) (HV.out.bl hb4)
          have hwl := words_len hte
          obtain ⟨ws, hws⟩ : ∃ ws, ws = wordsOf t := ⟨_, rfl⟩
          rw [← hws] at hsp hwl
          have Hsp := Lib.hid hsp; have HWs := Lib.hid hws
          clear hsp hws hte
          go_wp2_with fail
          refine Hsp.out.mono ?_
          rintro e w5 ⟨sc, rfl, hrd, hb45⟩
          have hb5 := hb4.trans hb45
          obtain ⟨q, hq⟩ : ∃ q, q = w4.heap.size := ⟨_, rfl⟩
          rw [← hq] at hrd ⊢
          have HRd := Lib.hid hrd
          have h0 : w5.ownsRow w5.heap.size 9 1 (.slice none 0 0) (fitTo ls gap' sp' most ws 0).length (strCells' (fitTo ls gap' sp' most ws 0)) := World.ownsRow_nil _ _ _ _
          have H0 := Lib.hid h0
          clear hrd Hsp h0 hq
          go_wp2_with fail
          go_loopw [43, 12] (fun u v wr => ∃ i : Nat, i ≤ ws.length ∧ u = .int .i64 i ∧ Bl w5 wr ∧ wr.ownsRow w5.heap.size 9 1 v (fitTo ls gap' sp' most ws i).length (strCells' (fitTo ls gap' sp' most ws i))) (fun u _ _ => ws.length - (RowKit.intOf u).toNat)
          case atStart => exact ⟨0, Nat.zero_le _, rfl, Bl.refl _, H0.out⟩
          case round =>
            obtain ⟨i, hi, rfl, hbr, hown⟩ := hrel
            obtain ⟨R1, c1, rfl, -, -⟩ := own_new hown
            have hfl := fit_len ls gap' sp' most ws i hi
            obtain ⟨n, hn⟩ : ∃ n, n = (fitTo ls gap' sp' most ws i).length := ⟨_, rfl⟩
            rw [← hn] at hfl
            have HOw := Lib.hid (show wr.ownsRow w5.heap.size 9 1 (.slice R1 n c1) n (strCells' (fitTo ls gap' sp' most ws i)) by rw [hn]; exact hown)
            rw [← hn]
            have HNn := Lib.hid hn
            clear hown hn
            have hbrr := hb5.trans hbr
            have k1 := (w21.bl hbrr).all5
            by_cases hlt : i < ws.length
            · have hg : ws[i]? = some ws[i] := List.getElem?_eq_getElem hlt
              obtain ⟨x, hx⟩ : ∃ x, x = ws[i] := ⟨_, rfl⟩
              rw [← hx] at hg
              have hst := fitTo_succ (ls := ls) (gap := gap') (sp := sp') (most := most) hg
              obtain ⟨adw, hR0, c0⟩ := str_at (HRd.out.bl hbr) hg
              injection hR0 with hR0
              subst hR0
              rw [add_flat] at c0
              have HSt := Lib.hid hst; have HG := Lib.hid hg
              clear hst hg hx
              rcases List.eq_nil_or_concat (fitTo ls gap' sp' most ws i) with hnil | ⟨pre, l, hpre⟩
              · have hn0 : n = 0 := by rw [HNn.out, hnil]; rfl
                subst hn0
                have HN := Lib.hid (show fitTo ls gap' sp' most ws (i + 1) = [x] by rw [HSt.out, hnil]; rfl)
                have hcs : strCells' (fitTo ls gap' sp' most ws i) = [] := by rw [hnil]; rfl
                have HOw2 := Lib.hid (show wr.ownsRow w5.heap.size 9 1 (.slice R1 0 c1) 0 [] by rw [← hcs]; exact HOw.out)
                clear hnil hcs HOw
                go_wp2_with (at_builtin; refine wpList_append_one (w1 := w5) rfl (.tmp 76) (.tmp 78) 52 rfl 9 (.string ByteArray.empty) 16 Tryd.underlying52 info_str rfl w5.heap.size _ 0 [] rfl (.string ⟨x.toArray⟩) rfl rfl hbr (Nat.le_refl _) (by have := hbr.le; first | omega | (simp; omega)) HOw2.out (by omega) (by unfold maxLen; omega) ?_; intro v' w8 hown8 hb8 hg8)
                have h9 : w8.ownsRow w5.heap.size 9 1 v' (fitTo ls gap' sp' most ws (i + 1)).length (strCells' (fitTo ls gap' sp' most ws (i + 1))) := by rw [HN.out]; exact hown8
                have H9 := Lib.hid h9; have HB8 := Lib.hid hb8
                clear h9 hown8 hb8 hg8
                go_wp2_with fail
                exact ⟨⟨i + 1, hlt, by go_num, HB8.out, H9.out⟩, by simp [RowKit.intOf] <;> omega⟩
              · rw [List.concat_eq_append] at hpre
                obtain ⟨N, hN⟩ : ∃ N, N = pre.length := ⟨_, rfl⟩
                have hn1 : n = N + 1 := by rw [HNn.out, hpre, hN, List.length_append]; rfl
                have hr := fit_right HR.out.texts (gap := gap') (sp := sp') (most := most) HTe.out (i := i) (w := x) (by rw [← HWs.out]; exact HG.out) (pre := pre) (l := l) (by rw [← HWs.out]; exact hpre)
                obtain ⟨-, y, hy⟩ := textErr_zero hr.1
                have hr2 := hr.2
                rw [List.length_append, List.length_cons] at hr2
                have hll : l.length ≤ 200 := by omega
                have hxl : x.length ≤ 200 := by omega
                have hsl : (⟨l.toArray⟩ : ByteArray).size = l.length := Lib.size_mk l
                have hsx : (⟨x.toArray⟩ : ByteArray).size = x.length := Lib.size_mk x
                have hs1 : ¬ (9223372036854775807 < l.length + 1) := by omega
                have hs2 : ¬ (9223372036854775807 < l.length + 1 + x.length) := by omega
                have hs3 : ¬ (9223372036854775807 < 1 + x.length) := by omega
                have hs4 : ¬ (9223372036854775807 < l.length + (1 + x.length)) := by omega
                have hwd := fun wx (hx : Bl w2 wx) => spelledG_any nm ht' gap' sp' adl c ls (l ++ 32 :: x) wx (HL.out.bl hx) HR.out (by omega) (HV.out.bl hx)
                have hwo : wideOf ls gap' sp' (l ++ 32 :: x) = (goAll ls gap' sp' (0, false) y).1 := by unfold wideOf; rw [itemsOf_some hy]
                have HR1 := Lib.hid hr.1; have HY := Lib.hid hy
                obtain ⟨V, hV⟩ : ∃ V, V = wideOf ls gap' sp' (l ++ 32 :: x) := ⟨_, rfl⟩
                have HVo := Lib.hid (show ((goAll ls gap' sp' (0, false) y).1 : Int) = (V : Int) by rw [hV, hwo])
                have hst := HSt.out
                rw [hpre, fitStep_last, ← hV] at hst
                obtain ⟨g, cap, e, hgB, -⟩ := own_some HOw.out (by omega)
                injection e with q1 _ q3
                subst q1
                subst q3
                have hxs : strCells' (fitTo ls gap' sp' most ws i) = strCells' pre ++ [strOf l] := by rw [hpre]; unfold strCells'; rw [List.map_append]; rfl
                have hown := HOw.out
                rw [hxs] at hown
                have hpl : (strCells' pre).length = N := by rw [hN]; unfold strCells'; rw [List.length_map]
                have hcl : wr.cell? ⟨g, N, none⟩ = some (.string ⟨l.toArray⟩) := own_at hown (by rw [List.getElem?_append_right (by omega), hpl, Nat.sub_self]; rfl)
                have hfz := (own_blk hown).2
                have hk1 : (n : Int) - 1 = (N : Int) := by omega
                have hkn : (N : Int) < (n : Int) := by omega
                have hcat := cat_word l x
                have hcat2 := cat_word2 l x
                have Hwd := Lib.hid hwd; have HSt2 := Lib.hid hst; have HOw3 := Lib.hid hown; have HPl := Lib.hid hpl; have HNN := Lib.hid hn1; have HPre := Lib.hid hN
                clear hwd hwo hV hy hr hpre hst hxs hown hpl hn1 hN HOw
                go_upto_region 15 with fail
                refine wp_region_flow [(true, 0), (true, 1), (true, 2), (true, 3), (true, 4), (true, 5), (true, 6), (true, 7), (false, 8), (true, 9), (true, 10), (true, 11), (true, 12), (true, 13), (true, 14), (true, 15)] (fun _ => false) (by kernel_rfl) (by kernel_rfl) (by kernel_rfl) (by kernel_rfl) ?_
                iterate 1
                  apply Flow.calm2 _ _ rfl rfl
                  · intro w' hb' K' hK'
                    obtain ⟨hc', hf'⟩ := hb'.rule
                    go_simp
                    try go_ints
                    exact hK'
                  · intro K' hK'
                    simp only [Act.put, List.setIfInBounds_toArray, List.set_cons_zero, List.set_cons_succ]
                    exact hK'
                iterate 2
                  apply Flow.mv _ rfl
                  · intro K' hK'
                    simp only [Act.put, Act.eval, List.setIfInBounds_toArray, List.set_cons_zero, List.set_cons_succ, arr_getD, List.getD_cons_zero, List.getD_cons_succ]
                    exact hK'
                iterate 1
                  apply Flow.calm2 _ _ rfl rfl
                  · intro w' hb' K' hK'
                    obtain ⟨hc', hf'⟩ := hb'.rule
                    go_simp
                    try go_ints
                    exact hK'
                  · intro K' hK'
                    simp only [Act.put, List.setIfInBounds_toArray, List.set_cons_zero, List.set_cons_succ]
                    exact hK'
                iterate 1
                  apply Flow.calm2 _ _ rfl rfl
                  · intro w' hb' K' hK'
                    obtain ⟨hc', hf'⟩ := hb'.rule
                    go_simp
                    try go_ints
                    exact hK'
                  · intro K' hK'
                    simp only [Act.put, List.setIfInBounds_toArray, List.set_cons_zero, List.set_cons_succ]
                    exact hK'
                iterate 1
                  apply Flow.calm2 _ _ rfl rfl
                  · intro w' hb' K' hK'
                    obtain ⟨hc', hf'⟩ := hb'.rule
                    go_simp
                    try go_ints
                    exact hK'
                  · intro K' hK'
                    simp only [Act.put, List.setIfInBounds_toArray, List.set_cons_zero, List.set_cons_succ]
                    exact hK'
                iterate 1
                  apply Flow.mv _ rfl
                  · intro K' hK'
                    simp only [Act.put, Act.eval, List.setIfInBounds_toArray, List.set_cons_zero, List.set_cons_succ, arr_getD, List.getD_cons_zero, List.getD_cons_succ]
                    exact hK'
                iterate 1
                  apply Flow.calm2 _ _ rfl rfl
                  · intro w' hb' K' hK'
                    obtain ⟨hc', hf'⟩ := hb'.rule
                    go_simp
                    try go_ints
                    exact hK'
                  · intro K' hK'
                    simp only [Act.put, List.setIfInBounds_toArray, List.set_cons_zero, List.set_cons_succ]
                    exact hK'
                apply Flow.move rfl
                go_wp2_with fail
                refine (Hwd.out _ (hbrr.trans (Bl.refl _).drew)).mono ?_
                rintro e w6 ⟨R6, m6, d6, wd6, err6, rfl, herr6, -, hok6, HB1⟩
                have he6 : err6 = 0 := herr6.trans HR1.out
                subst he6
                obtain ⟨hv6, -, -, -⟩ := hok6 rfl y HY.out
                rw [HVo.out] at hv6
                subst hv6
                clear herr6 hok6
                go_wp2_with fail
                refine ⟨fun _ => (by first | exact HB1 | exact Bl.refl _), ?_⟩
                iterate 1
                  apply Flow.mv _ rfl
                  · intro K' hK'
                    simp only [Act.put, Act.eval, List.setIfInBounds_toArray, List.set_cons_zero, List.set_cons_succ, arr_getD, List.getD_cons_zero, List.getD_cons_succ]
                    exact hK'
                iterate 3
                  apply Flow.calm2 _ _ rfl rfl
                  · intro w' hb' K' hK'
                    obtain ⟨hc', hf'⟩ := hb'.rule
                    go_simp
                    try go_ints
                    exact hK'
                  · intro K' hK'
                    simp only [Act.put, List.setIfInBounds_toArray, List.set_cons_zero, List.set_cons_succ]
                    exact hK'
                iterate 3
                  apply Flow.asg _ rfl
                  · intro K' hK'
                    simp only [Act.put, Act.eval, List.setIfInBounds_toArray, List.set_cons_zero, List.set_cons_succ, arr_getD, List.getD_cons_zero, List.getD_cons_succ]
                    exact hK'
                refine Flow.done ?_
                have hbl : Bl wr w6 := Bl.ofDrew HB1
                by_cases hm : (V : Int) ≤ most
                · have HEq := Lib.hid (HSt2.out.trans (if_pos hm))
                  have ho6 := own_bl HOw3.out hbl
                  have hcl6 := hbl.at hcl
                  have hfz6 := (own_blk ho6).2
                  have hset := ownsRow_set ho6 N (strOf (l ++ 32 :: x))
                  rw [List.set_append_right _ _ (by have := HPl.out; omega), HPl.out, Nat.sub_self] at hset
                  have h9 : (w6.setCell ⟨g, N, none⟩ (strOf (l ++ 32 :: x))).ownsRow w5.heap.size 9 1 (.slice (some ⟨g, 0, none⟩) n c1) (fitTo ls gap' sp' most ws (i + 1)).length (strCells' (fitTo ls gap' sp' most ws (i + 1))) := by
                    rw [HEq.out]
                    have e1 : (pre ++ [l ++ 32 :: x]).length = n := by rw [List.length_append, ← HPre.out, HNN.out]; rfl
                    have e2 : strCells' (pre ++ [l ++ 32 :: x]) = strCells' pre ++ [strOf (l ++ 32 :: x)] := by unfold strCells'; rw [List.map_append]; rfl
                    rw [e1, e2]
                    exact hset
                  have H9 := Lib.hid h9; have HBL := Lib.hid (hbr.trans hbl)
                  clear h9 hset ho6 HB1 hcl hfz
                  go_wp2_with fail
                  exact ⟨⟨i + 1, hlt, by go_num, HBL.out.setCell hgB _, H9.out⟩, by simp [RowKit.intOf] <;> omega⟩
                · have HEq := Lib.hid (HSt2.out.trans (if_neg hm))
                  have ho6 := Lib.hid (own_bl HOw3.out hbl)
                  have hb36 := hbr.trans hbl
                  clear hcl hfz HB1
                  go_wp2_with (at_builtin; refine wpList_append_one (w1 := w5) rfl (.tmp 76) (.tmp 78) 52 rfl 9 (.string ByteArray.empty) 16 Tryd.underlying52 info_str rfl w5.heap.size _ n (strCells' pre ++ [strOf l]) rfl (.string ⟨x.toArray⟩) rfl rfl hb36 (Nat.le_refl _) (by have := hb36.le; first | omega | (simp; omega)) ho6.out (by omega) (by unfold maxLen; omega) ?_; intro v' w8 hown8 hb8 hg8)
                  have h9 : w8.ownsRow w5.heap.size 9 1 v' (fitTo ls gap' sp' most ws (i + 1)).length (strCells' (fitTo ls gap' sp' most ws (i + 1))) := by
                    rw [HEq.out]
                    have e1 : (pre ++ [l] ++ [x]).length = n + 1 := by rw [List.length_append, List.length_append, ← HPre.out, HNN.out]; rfl
                    have e2 : strCells' (pre ++ [l] ++ [x]) = strCells' pre ++ [strOf l] ++ [strOf x] := by unfold strCells'; rw [List.map_append, List.map_append]; rfl
                    rw [e1, e2]
                    exact hown8
                  have H9 := Lib.hid h9; have HB8 := Lib.hid hb8
                  clear h9 hown8 hb8 hg8
                  go_wp2_with fail
                  exact ⟨⟨i + 1, hlt, by go_num, HB8.out, H9.out⟩, by simp [RowKit.intOf] <;> omega⟩
            · obtain rfl : i = ws.length := by omega
              obtain ⟨A2, c2, e2, hr2⟩ := own_reads HOw.out
              injection e2 with q1 _ q3
              subst q1
              subst q3
              have HRr := Lib.hid hr2; have HCap := Lib.hid (own_cap HOw.out)
              clear hr2
              go_wp2_with fail
              refine bodyPost_ret (v := .tuple #[.slice R1 n c1, .int .i64 0]) (by simp [results, Tryd.results28, go_sem]) rfl ⟨R1, n, c1, 0, rfl, HE.out.symm, fun h => absurd rfl h, fun _ => ?_, HCap.out, w2b.trans hbrr⟩
              simp only [Int.toNat_natCast]
              rw [← HWs.out]
              exact ⟨HNn.out, HRr.out⟩

end Go.Proofs.YtjelhdpcaileiaaDoor
