/- The law TopReadsBack answers true. -/
import Derived.Test.YtjelhdpcaileiaaDoorS28
import Derived.Test.YtjelhdpcaileiaaDoorS37
import Derived.Test.YtjelhdpcaileiaaDoorS38
import Derived.Test.YtjelhdpcaileiaaDoorS40
import Derived.Test.YtjelhdpcaileiaaDoorS42
import Derived.Test.YtjelhdpcaileiaaDoorS6
import Derived.Test.YtjelhdpcaileiaaDoorS9

namespace Go.Proofs.YtjelhdpcaileiaaDoor
open Go.RowKit Go.Shelf

theorem landed2_any (w : World) : Calls Tryd.prog 23 #[] w fun e w' => e = .returned (.bool true) ∧ Bl w w' := by
  have h := fun w => isName_any ⟨#[97]⟩ w (by decide)
  have hn : nameB (⟨#[97]⟩ : ByteArray).data.toList = true := by decide
  rw [hn] at h
  go_enter Tryd.func23, Tryd.ntmps23
  go_wp2_with fail
  refine (h _).mono ?_
  rintro e w1 ⟨rfl, hb⟩
  go_wp2_with fail
  go_ret
  exact ⟨rfl, hb⟩
theorem subOk_of_cut {w : World} (h : CutOk w) : SubOk w := by
  have e : Tryd.lays144_ren.g 1 = Tryd.lays145_ren.g 1 := by kernel_rfl
  unfold CutOk at h
  unfold SubOk
  rw [e]
  exact h
theorem cut32_any (t : List UInt8) (w : World) (hlen : t.length ≤ 40200) (hm : CutOk w) :
    Calls Tryd.prog 31 #[.string ⟨t.toArray⟩, .string ⟨#[32]⟩] w fun e w' => e = .returned (.tuple #[.string ⟨(firstW t).toArray⟩, .string ⟨(Lib.cut t [32]).2.1.toArray⟩, .bool (Lib.cut t [32]).2.2]) ∧ Bl w w' := by
  obtain ⟨m, hm⟩ := hm
  have h := Any.strings_Cut Tryd.lays145 ⟨t.toArray⟩ ⟨#[32]⟩ m w (by rw [Lib.size_mk]; omega) hm
  refine Calls.mono (R := fun e w' => e = .returned (.tuple #[.string ⟨(Lib.cut t [32]).1.toArray⟩, .string ⟨(Lib.cut t [32]).2.1.toArray⟩, .bool (Lib.cut t [32]).2.2]) ∧ ∃ n, w' = w.drewN n) h ?_
  rintro e w' ⟨rfl, n, rfl⟩
  exact ⟨rfl, bl_drewN w n⟩
theorem contains_no {s : List UInt8} (h : ∀ b ∈ s, b ≠ 32) : Lib.contains s [32] = false := by
  unfold Lib.contains
  rcases index_space s with ⟨e, -⟩ | ⟨i, -, hi, e, -⟩
  · rw [e]; rfl
  · refine absurd rfl (h 32 ?_)
    rw [e]
    simp
theorem setErr_zero3 {ls : List Ltr} {ht gap sp : Nat} {s : List UInt8} (h : setErr ls ht gap sp s = 0) : textErr ls s = 0 ∧ sizeErr (wideOf ls gap sp s) ht = 0 := by
  unfold setErr at h
  by_cases e : textErr ls s = 0
  · rw [if_pos e] at h; exact ⟨e, h⟩
  · rw [if_neg e] at h; exact absurd h e
theorem firstW_len (s : List UInt8) : (firstW s).length ≤ s.length := by
  rw [firstW_eq]
  exact (List.takeWhile_prefix _).length_le

set_option maxRecDepth 100000 in
set_option maxHeartbeats 8000000 in
theorem lawBack_any (nm : List UInt8) (ht gap sp : Int) (L : Option Addr) (c : Nat) (ls : List Ltr) (t : List UInt8) (most : Int) (w : World) (hL : LtrsAt w L ls) (hnm : nm.length ≤ 9223372036854775807) (hn : ls.length ≤ 9223372036854775807) (hc : ls.length ≤ c) (htl : t.length ≤ 9223372036854775807) (hv : SubOk w) (hcv : CutOk w) :
    Calls Tryd.prog 4 #[.agg #[.string ⟨nm.toArray⟩, .int .i64 ht, .int .i64 gap, .int .i64 sp, .slice L ls.length c], .string ⟨t.toArray⟩, .int .i64 most] w fun e w' => e = .returned (.bool true) ∧ Bl w w' := by
  let w2 := (w).alloc (.cells #[.string ⟨nm.toArray⟩, .int .i64 ht, .int .i64 gap, .int .i64 sp, .slice L ls.length c] 24)
  have w2b : Bl w w2 := (Bl.refl w).alloc _
  have w21 : Blk w2 (w.heap.size) 24 #[.string ⟨nm.toArray⟩, .int .i64 ht, .int .i64 gap, .int .i64 sp, .slice L ls.length c] := by
    have h0 := Blk.new (w) 24 #[.string ⟨nm.toArray⟩, .int .i64 ht, .int .i64 gap, .int .i64 sp, .slice L ls.length c]
    exact h0
  have HL := Lib.hid (hL.bl w2b)
  have HV := Lib.hid (hv.bl w2b); have HCV := Lib.hid (hcv.bl w2b)
  obtain ⟨fe, hfe⟩ : ∃ x, x = fontErr (nameB nm) ht gap sp ls := ⟨_, rfl⟩
  have HFe := Lib.hid hfe
  clear hL hfe hv hcv
  go_enter Tryd.func4, Tryd.ntmps4
  go_wp2_with fail
  refine (landed2_any _).mono ?_
  rintro e w3 ⟨rfl, hb3'⟩
  have hb3 : Bl w2 w3 := hb3'
  clear hb3'
  clear_value w2
  have k1 := (w21.bl hb3).all5
  have hst := fset_any nm ht gap sp L c ls t w3 (HL.out.bl hb3) hnm hn htl (HV.out.bl hb3)
  rw [← HFe.out] at hst
  have Hst := Lib.hid hst
  clear hst
  go_wp2_with fail
  refine Hst.out.mono ?_
  rintro e w4 ⟨a, b, R, m, d, rfl, hres, hb34⟩
  obtain ⟨E, hE⟩ : ∃ E, E = fsetErr fe ls ht gap sp t := ⟨_, rfl⟩
  rw [← hE] at hres ⊢
  have HE := Lib.hid hE; have HRes := Lib.hid hres
  have hb4 := hb3.trans hb34
  clear k1 Hst hE hres
  go_upto_region 4 with fail
  obtain ⟨w5, hw5⟩ : ∃ x, x = w4.alloc (.cells #[.int .i64 a, .int .i64 b, .slice R m d] 27) := ⟨_, rfl⟩
  obtain ⟨o, ho⟩ : ∃ x, x = w4.heap.size := ⟨_, rfl⟩
  have bO : Blk w5 o 27 #[.int .i64 a, .int .i64 b, .slice R m d] := by rw [hw5, ho]; exact Blk.new _ _ _
  have hb45 : Bl w4 w5 := by rw [hw5]; exact (Bl.refl _).alloc _
  rw [← hw5, ← ho]
  clear hw5 ho
  have hb5 := hb4.trans hb45
  have k1 := (w21.bl hb5).all5
  by_cases hz : E = 0
  case neg =>
    have hq : (E != 0) = true := by simp [hz]
    clear hz
    go_wp2_with fail
    go_ret
    exact ⟨rfl, w2b.trans hb5⟩
  case pos =>
    have hfe0 : fe = 0 ∧ setErr ls ht.toNat gap.toNat sp.toNat t = 0 := by
      have h := HE.out
      rw [hz] at h
      unfold fsetErr at h
      by_cases h0 : fe = 0
      · rw [if_pos h0] at h; exact ⟨h0, h.symm⟩
      · rw [if_neg h0] at h; exact absurd h.symm h0
    obtain ⟨hf0, hse⟩ := hfe0
    obtain ⟨ht', gap', sp', rfl, rfl, rfl, hR⟩ := right_of (HFe.out.symm.trans hf0)
    obtain ⟨adl, rfl⟩ := some_at HL.out hR.many.1
    simp only [Int.toNat_natCast] at hse
    obtain ⟨hte, hsz⟩ := setErr_zero3 hse
    obtain ⟨hle, l, hl⟩ := textErr_zero hte
    obtain ⟨hne, ht200, hform⟩ := lineErr_zero hle
    obtain ⟨A', c'', he, hrd, hrn⟩ := HRes.out.1 hz
    simp only [Value.agg.injEq, Array.mk.injEq, List.cons.injEq, Value.int.injEq, Value.slice.injEq, true_and, and_true, Int.toNat_natCast] at he hrd
    obtain ⟨rfl, rfl, rfl, rfl, rfl⟩ := he
    have HR := Lib.hid hR
    have hwo : wideOf ls gap' sp' t = (goAll ls gap' sp' (0, false) l).1 := by unfold wideOf; rw [itemsOf_some hl]
    have hsc : setCells ls ht' gap' sp' t = grid (wideOf ls gap' sp' t) ht' (setF ls (putAt ls gap' sp' (0, false) l)) := by unfold setCells; rw [itemsOf_some hl]
    have HFb := Lib.hid (fit_back hR hte hsz most rfl)
    have HInk := Lib.hid (inked_of HL.out hR (by rw [← HFe.out]; exact hf0))
    have HTe := Lib.hid hte; have HSz := Lib.hid hsz; have HWo := Lib.hid hwo; have HSc := Lib.hid hsc
    have HLl := Lib.hid hl; have HNe := Lib.hid hne; have HFm := Lib.hid hform; have HF0 := Lib.hid hf0
    have hrd5 := hrd.bl hb45
    have HRd := Lib.hid hrd5
    have hz1 := sizeErr_zero hsz
    obtain ⟨W, hW⟩ : ∃ W, W = wideOf ls gap' sp' t := ⟨_, rfl⟩
    rw [← hW] at HRd HWo HSc HSz bO hz1
    have HW := Lib.hid hW
    have hb1 : 1 ≤ W ∧ W ≤ 4000 := by omega
    have hh := hR.ht1
    subst hz
    clear HRes hse hsz hle hwo hsc hte hl hne hform hrd hrd5 hrn hf0 hW hz1 hR
    by_cases hmany : 20 < ls.length
    · have hmI : (20 : Int) < (ls.length : Int) := by omega
      go_wp2_with fail
      go_ret
      exact ⟨rfl, w2b.trans hb5⟩
    · have hmI : ¬ ((20 : Int) < (ls.length : Int)) := by omega
      have hap := apart_any nm ht' gap' sp' adl c ls w5 (HL.out.bl hb5) HR.out hc
      have Hap := Lib.hid hap
      clear hap
      go_wp2_with fail
      refine Hap.out.mono ?_
      rintro e w6 ⟨ap, rfl, htold, hb56⟩
      have hb6 := hb5.trans hb56
      clear Hap k1
      have k1 := (w21.bl hb6).all5
      cases hap : ap with
      | false =>
        subst hap
        go_wp2_with fail
        go_ret
        exact ⟨rfl, w2b.trans hb6⟩
      | true =>
        have HTold := Lib.hid (htold hap)
        have kO := (bO.bl hb56).all3
        have hrdd := read_any nm ht' gap' sp' (some adl) c ls (W : Int) (ht' : Int) R (W * ht') d (setCells ls ht' gap' sp' t) 0 w6 (HL.out.bl hb6) (HRd.out.bl hb56) hnm hn
        rw [← HFe.out, HF0.out] at hrdd
        have Hrdd := Lib.hid hrdd
        subst hap
        clear hrdd htold
        go_wp2_with fail
        refine Hrdd.out.mono ?_
        rintro e w7 ⟨R2, m2, d2, err, rfl, ⟨herr, -, hok⟩, hb67⟩
        have herr0 : err = 0 := by
          rw [herr]
          have hp : pageErr (W : Int) (ht' : Int) (W * ht') = 0 := by unfold pageErr; rw [if_pos HSz.out, if_pos (by simp)]
          have hq : ((ht' : Int) != (ht' : Int)) = false := bne_self_eq_false _
          rw [hp, readErr_m hq]
          rfl
        obtain ⟨hm2, hr2⟩ := hok herr0
        obtain ⟨ss, hs1, hs2, hs3⟩ := read_back HR.out HInk.out HTold.out HLl.out HNe.out HFm.out HWo.out HSc.out
        have hcnt := line_len (seeOf (setCells ls ht' gap' sp' t) W ht' ls 0 ht') (((gap' : Int) + (sp' : Int) + 1) / 2) ht' (piecesTo (colN (setCells ls ht' gap' sp' t) W ht') W) (piecesTo (colN (setCells ls ht' gap' sp' t) W ht') W).length
        have hpl := pieces_len (colN (setCells ls ht' gap' sp' t) W ht') W
        simp only [Int.toNat_natCast] at hm2 hr2
        rw [hs1, List.length_map] at hm2 hcnt
        rw [hs1, map_flat] at hr2
        have hsl : ss.length ≤ 1099511627776 := by omega
        subst hm2
        subst herr0
        have hb7 := hb6.trans hb67
        have htx := text_any R2 d2 ss w7 hr2 hsl hs3
        rw [hs2] at htx
        have Htx := Lib.hid htx
        clear htx hr2 hs1 hs2 hs3 hcnt hpl hok Hrdd herr k1 kO bO
        have k1 := (w21.bl hb7).all5
        go_wp2_with fail
        refine Htx.out.mono ?_
        rintro e w8 ⟨rfl, hb78⟩
        have hb8 := hb7.trans hb78
        have hft := fitG_any nm ht' gap' sp' (some adl) c ls t most w8 (HL.out.bl hb8) hnm hn (by omega) (HV.out.bl hb8)
        rw [← HFe.out, HF0.out] at hft
        have Hft := Lib.hid hft
        clear hft Htx k1
        have k1 := (w21.bl hb8).all5
        go_wp2_with fail
        refine Hft.out.mono ?_
        rintro e w9 ⟨R3, m3, d3, E3, rfl, hE3, hbad, hok, hcap, hb89⟩
        have hb9 := hb8.trans hb89
        clear k1 Hft
        by_cases hz : E3 = 0
        case neg =>
          have hq : (E3 != 0) = true := by simp [hz]
          clear hz
          go_wp2_with fail
          go_ret
          exact ⟨rfl, w2b.trans hb9⟩
        case pos =>
          obtain ⟨hm3, hr3⟩ := hok hz
          simp only [Int.toNat_natCast] at hm3 hr3
          obtain ⟨out, hout⟩ : ∃ out, out = fitTo ls gap' sp' most (wordsOf t) (wordsOf t).length := ⟨_, rfl⟩
          obtain ⟨hall, hpair, hjoin⟩ := HFb.out
          rw [← hout] at hm3 hr3 hall hpair hjoin
          have hjl := joinW_len out
          rw [hjoin] at hjl
          have HAll := Lib.hid hall; have HPair := Lib.hid hpair; have HJoin := Lib.hid hjoin; have HR3 := Lib.hid hr3
          have hol : out.length ≤ 1000 := by omega
          subst hm3
          subst hz
          clear hok hbad hall hpair hjoin hjl hr3 hout hE3
          have k1 := (w21.bl hb9).all5
          go_wp2_with fail
          go_loopw [66] (fun u wr => ∃ i : Nat, i ≤ out.length ∧ u = .int .i64 i ∧ Bl w9 wr) (fun u _ => out.length - (RowKit.intOf u).toNat)
          case atStart => exact ⟨0, Nat.zero_le _, rfl, Bl.refl _⟩
          case round =>
            obtain ⟨i, hi, rfl, hbr⟩ := hrel
            have hbrr := hb9.trans hbr
            clear k1
            have k1 := (w21.bl hbrr).all5
            by_cases hlt : i < out.length
            · have hg : out[i]? = some out[i] := List.getElem?_eq_getElem hlt
              obtain ⟨s, hs⟩ : ∃ s, s = out[i] := ⟨_, rfl⟩
              rw [← hs] at hg
              obtain ⟨ad, rfl, c0⟩ := str_at (HR3.out.bl hbr) hg
              obtain ⟨hs0, hs200, hgood⟩ := HAll.out s (List.mem_of_getElem? hg)
              have hwd := width_any nm ht' gap' sp' (some adl) c ls s wr (HL.out.bl hbrr) hnm hn (by omega) (HV.out.bl hbrr)
              rw [← HFe.out, HF0.out] at hwd
              have hf0 : fsetErr 0 ls ht' gap' sp' s = 0 := by unfold fsetErr; rw [if_pos rfl]; exact hs0
              unfold WidthRes at hwd
              rw [hf0] at hwd
              have Hwd := Lib.hid hwd; have HG := Lib.hid hg; have HGd := Lib.hid hgood
              clear hwd hg hs hs0 hgood hf0
              go_wp2_with fail
              refine Hwd.out.mono ?_
              rintro e w10 ⟨x, rfl, -, hx, hb10⟩
              have hxv := hx (by simp)
              simp only [Int.toNat_natCast] at hxv
              obtain ⟨V, hV⟩ : ∃ V, V = wideOf ls gap' sp' s := ⟨_, rfl⟩
              rw [← hV] at hxv
              subst hxv
              have HVo := Lib.hid hV
              clear hV
              have hbw := hbr.trans hb10
              have hb29 := hb9.trans hbw
              clear Hwd hx k1
              have k1 := (w21.bl hb29).all5
              go_upto_region 16 with fail
              go_cut [87] from 77 to 87 (fun s87 wc => s87 = .bool false ∧ Bl w10 wc)
              case first =>
                by_cases hm : most < (V : Int)
                · have hno : ∀ b ∈ s, b ≠ 32 := by
                    rcases HGd.out with h | h
                    · exact h
                    · rw [← HVo.out] at h; omega
                  have Hcn := Lib.hid (contains_any s [32] w10 (by omega) (HV.out.bl hb29))
                  have HNo := Lib.hid (contains_no hno)
                  clear hno
                  go_wp2_with fail
                  refine Hcn.out.mono ?_
                  rintro e w11 ⟨rfl, rfl⟩
                  rw [HNo.out]
                  go_wp2_with fail
                  go_meet
                  case rel => exact ⟨by first | rfl | simp, Bl.refl _⟩
                · go_wp2_with fail
                  go_meet
                  case rel => exact ⟨by first | rfl | simp, Bl.refl _⟩
              case rest =>
                obtain ⟨rfl, hbc⟩ := hcut
                rename World => w11
                have hbw2 := hbw.trans hbc
                have hb211 := hb9.trans hbw2
                clear k1
                have k1 := (w21.bl hb211).all5
                by_cases hi0 : i = 0
                · subst hi0
                  go_wp2_with fail
                  exact ⟨⟨1, by omega, by go_num, hbw2⟩, by simp [RowKit.intOf] <;> omega⟩
                · obtain ⟨k, hk⟩ : ∃ k, i = k + 1 := ⟨i - 1, by omega⟩
                  have hi1 : (0 : Int) < (i : Int) := by omega
                  have hik : (i : Int) - 1 = (k : Int) := by omega
                  have hkl : (k : Int) < (out.length : Int) := by omega
                  have hct := cut32_any s w11 (by omega) (HCV.out.bl hb211)
                  have hfl := firstW_len s
                  obtain ⟨nx, hnx⟩ : ∃ nx, nx = firstW s := ⟨_, rfl⟩
                  rw [← hnx] at hct hfl
                  have Hct := Lib.hid hct; have HNx := Lib.hid hnx
                  have hgp : out[k]? = some out[k] := List.getElem?_eq_getElem (by omega)
                  obtain ⟨p, hp⟩ : ∃ p, p = out[k] := ⟨_, rfl⟩
                  rw [← hp] at hgp
                  obtain ⟨-, hp200, -⟩ := HAll.out p (List.mem_of_getElem? hgp)
                  have hnr := HPair.out k p s hgp (by rw [← hk]; exact HG.out)
                  unfold NoRoom at hnr
                  rw [← hnx] at hnr
                  have HNr := Lib.hid hnr; have HGp := Lib.hid hgp
                  clear hct hnx hgp hp hnr hk
                  go_wp2_with fail
                  refine Hct.out.mono ?_
                  rintro e w12 ⟨rfl, hb12⟩
                  have hbw3 := hbw2.trans hb12
                  have hb212 := hb9.trans hbw3
                  clear Hct k1 c0
                  have k1 := (w21.bl hb212).all5
                  obtain ⟨ad', hA, c0⟩ := str_at (HR3.out.bl hbw3) HGp.out
                  injection hA with hA
                  subst hA
                  have hsl : (⟨p.toArray⟩ : ByteArray).size = p.length := Lib.size_mk p
                  have hsx : (⟨nx.toArray⟩ : ByteArray).size = nx.length := Lib.size_mk nx
                  have hs1 : ¬ (9223372036854775807 < p.length + 1) := by omega
                  have hs2 : ¬ (9223372036854775807 < p.length + 1 + nx.length) := by omega
                  have hs3 : ¬ (9223372036854775807 < 1 + nx.length) := by omega
                  have hs4 : ¬ (9223372036854775807 < p.length + (1 + nx.length)) := by omega
                  have hcat := cat_word p nx
                  have hcat2 := cat_word2 p nx
                  have hlen2 : (p ++ 32 :: nx).length ≤ 1000 := by rw [List.length_append, List.length_cons]; omega
                  obtain ⟨U, hU⟩ : ∃ U, U = fsetErr 0 ls ht' gap' sp' (p ++ 32 :: nx) := ⟨_, rfl⟩
                  have hwd : ∀ wx, Bl w2 wx → Calls Tryd.prog 29 #[.agg #[.string ⟨nm.toArray⟩, .int .i64 ht', .int .i64 gap', .int .i64 sp', .slice (some adl) ls.length c], .string ⟨(p ++ 32 :: nx).toArray⟩] wx (fun e w' => ∃ x, e = .returned (.tuple #[.int .i64 x, .int .i64 U]) ∧ (U = 0 → x = (wideOf ls gap' sp' (p ++ 32 :: nx) : Int)) ∧ Bl wx w') := fun wx hx => by
                    have h := width_any nm ht' gap' sp' (some adl) c ls (p ++ 32 :: nx) wx (HL.out.bl hx) hnm hn (by omega) (HV.out.bl hx)
                    rw [← HFe.out, HF0.out] at h
                    refine h.mono ?_
                    rintro e w' ⟨x, h1, -, h2, h3⟩
                    rw [← hU] at h1 h2
                    exact ⟨x, h1, fun hz => by have h4 := h2 hz; simpa only [Int.toNat_natCast] using h4, h3⟩
                  have Hwd := Lib.hid hwd
                  clear hwd hU hlen2
                  go_upto_region 20 with fail
                  refine wp_region_flow [(true, 0), (true, 1), (true, 2), (true, 3), (true, 4), (true, 5), (true, 6), (true, 7), (true, 8), (false, 9), (true, 10), (true, 11), (true, 12), (true, 13), (true, 14)] (fun _ => false) (by kernel_rfl) (by kernel_rfl) (by kernel_rfl) (by kernel_rfl) ?_
                  iterate 1
                    apply Flow.calm2 _ _ rfl rfl
                    · intro w' hb' K' hK'
                      obtain ⟨hc', hf'⟩ := hb'.rule
                      go_simp
                      try go_ints
                      exact hK'
                    · intro K' hK'
                      simp only [Act.put, List.setIfInBounds_toArray, List.set_cons_zero, List.set_cons_succ]
                      exact hK'
                  iterate 2
                    apply Flow.mv _ rfl
                    · intro K' hK'
                      simp only [Act.put, Act.eval, List.setIfInBounds_toArray, List.set_cons_zero, List.set_cons_succ, arr_getD, List.getD_cons_zero, List.getD_cons_succ]
                      exact hK'
                  iterate 1
                    apply Flow.calm2 _ _ rfl rfl
                    · intro w' hb' K' hK'
                      obtain ⟨hc', hf'⟩ := hb'.rule
                      go_simp
                      try go_ints
                      exact hK'
                    · intro K' hK'
                      simp only [Act.put, List.setIfInBounds_toArray, List.set_cons_zero, List.set_cons_succ]
                      exact hK'
                  iterate 1
                    apply Flow.calm2 _ _ rfl rfl
                    · intro w' hb' K' hK'
                      obtain ⟨hc', hf'⟩ := hb'.rule
                      go_simp
                      try go_ints
                      exact hK'
                    · intro K' hK'
                      simp only [Act.put, List.setIfInBounds_toArray, List.set_cons_zero, List.set_cons_succ]
                      exact hK'
                  iterate 1
                    apply Flow.calm2 _ _ rfl rfl
                    · intro w' hb' K' hK'
                      obtain ⟨hc', hf'⟩ := hb'.rule
                      go_simp
                      try go_ints
                      exact hK'
                    · intro K' hK'
                      simp only [Act.put, List.setIfInBounds_toArray, List.set_cons_zero, List.set_cons_succ]
                      exact hK'
                  iterate 1
                    apply Flow.calm2 _ _ rfl rfl
                    · intro w' hb' K' hK'
                      obtain ⟨hc', hf'⟩ := hb'.rule
                      go_simp
                      try go_ints
                      exact hK'
                    · intro K' hK'
                      simp only [Act.put, List.setIfInBounds_toArray, List.set_cons_zero, List.set_cons_succ]
                      exact hK'
                  iterate 1
                    apply Flow.mv _ rfl
                    · intro K' hK'
                      simp only [Act.put, Act.eval, List.setIfInBounds_toArray, List.set_cons_zero, List.set_cons_succ, arr_getD, List.getD_cons_zero, List.getD_cons_succ]
                      exact hK'
                  iterate 1
                    apply Flow.calm2 _ _ rfl rfl
                    · intro w' hb' K' hK'
                      obtain ⟨hc', hf'⟩ := hb'.rule
                      go_simp
                      try go_ints
                      exact hK'
                    · intro K' hK'
                      simp only [Act.put, List.setIfInBounds_toArray, List.set_cons_zero, List.set_cons_succ]
                      exact hK'
                  apply Flow.move rfl
                  go_wp2_with fail
                  refine (Hwd.out _ (hb212.trans (Bl.refl _).drew)).mono ?_
                  rintro e w13 ⟨x2, rfl, hx2, HB1⟩
                  go_wp2_with fail
                  refine ⟨fun _ => (by first | exact HB1 | exact Bl.refl _), ?_⟩
                  iterate 1
                    apply Flow.mv _ rfl
                    · intro K' hK'
                      simp only [Act.put, Act.eval, List.setIfInBounds_toArray, List.set_cons_zero, List.set_cons_succ, arr_getD, List.getD_cons_zero, List.getD_cons_succ]
                      exact hK'
                  iterate 2
                    apply Flow.calm2 _ _ rfl rfl
                    · intro w' hb' K' hK'
                      obtain ⟨hc', hf'⟩ := hb'.rule
                      go_simp
                      try go_ints
                      exact hK'
                    · intro K' hK'
                      simp only [Act.put, List.setIfInBounds_toArray, List.set_cons_zero, List.set_cons_succ]
                      exact hK'
                  iterate 2
                    apply Flow.asg _ rfl
                    · intro K' hK'
                      simp only [Act.put, Act.eval, List.setIfInBounds_toArray, List.set_cons_zero, List.set_cons_succ, arr_getD, List.getD_cons_zero, List.getD_cons_succ]
                      exact hK'
                  refine Flow.done ?_
                  have hb13 : Bl w12 w13 := Bl.ofDrew HB1
                  have hbw4 := hbw3.trans hb13
                  by_cases hz : U = 0
                  · have hxv := hx2 hz
                    have hle : ¬ (x2 ≤ most) := by rw [hxv]; have := HNr.out; omega
                    subst hz
                    clear hx2 hxv HB1
                    go_wp2_with fail
                    exact ⟨⟨i + 1, hlt, by go_num, hbw4⟩, by simp [RowKit.intOf] <;> omega⟩
                  · have hq : (U == 0) = false := by simp [hz]
                    clear hx2 hz HB1
                    go_wp2_with fail
                    exact ⟨⟨i + 1, hlt, by go_num, hbw4⟩, by simp [RowKit.intOf] <;> omega⟩
            · obtain rfl : i = out.length := by omega
              have hjn := join_any R3 d3 out wr (HR3.out.bl hbr) (by rw [HJoin.out]; omega) hol hcap
              rw [HJoin.out] at hjn
              have Hjn := Lib.hid hjn
              clear hjn
              go_wp2_with fail
              refine Hjn.out.mono ?_
              rintro e w10 ⟨rfl, hb10⟩
              go_wp2_with fail
              go_ret
              exact ⟨by first | rfl | simp, w2b.trans (hbrr.trans hb10)⟩

end Go.Proofs.YtjelhdpcaileiaaDoor
