/- A font whose error is 0 is right; Width and Set of any font. -/
import Derived.Test.YtjelhdpcaileiaaDoorU47
import Derived.Test.YtjelhdpcaileiaaDoorU16

namespace Go.Proofs.YtjelhdpcaileiaaDoor
open Go.RowKit Go.Shelf

theorem right_of {nm : Bool} {ht gap sp : Int} {ls : List Ltr} (h : fontErr nm ht gap sp ls = 0) : ∃ ht' gap' sp' : Nat, ht = (ht' : Int) ∧ gap = (gap' : Int) ∧ sp = (sp' : Int) ∧ Right ht' gap' sp' ls := by
  obtain ⟨⟨-, hrg, hgs, hl0, hl2, h1, h2⟩, hl⟩ := fontErr_zero h
  have hrg2 : 1 ≤ gap ∧ gap ≤ 16 ∧ 1 ≤ sp ∧ sp ≤ 64 := by
    unfold rangeB at hrg
    simp only [Bool.and_eq_true] at hrg
    have h1 := inB_true.1 hrg.2.1
    have h2 := inB_true.1 hrg.2.2
    exact ⟨h1.1, h1.2, h2.1, h2.2⟩
  obtain ⟨ht', rfl⟩ : ∃ n : Nat, ht = (n : Int) := ⟨ht.toNat, by omega⟩
  obtain ⟨gap', rfl⟩ : ∃ n : Nat, gap = (n : Int) := ⟨gap.toNat, by omega⟩
  obtain ⟨sp', rfl⟩ : ∃ n : Nat, sp = (n : Int) := ⟨sp.toNat, by omega⟩
  have key : ∀ k (hk : k < ls.length), (ls[k]'hk).W = (wdOf ls k : Int) ∧ 1 ≤ wdOf ls k ∧ wdOf ls k ≤ 64 ∧ (ls[k]'hk).H = (ht' : Int) ∧ (ls[k]'hk).m = wdOf ls k * ht' ∧ textB (ls[k]'hk).text = true := fun k hk => by
    obtain ⟨a1, a2, a3, a4⟩ := hl _ (List.getElem_mem hk)
    obtain ⟨W, H, e1, e2, e3, -, -, -⟩ := page_nat a2
    have hsz := sizeErr_zero (pageErr_zero a2).1
    have hw : wdOf ls k = W := by rw [wdOf_at (List.getElem?_eq_getElem hk), e1]; rfl
    have hh : H = ht' := by rw [e2] at a3; omega
    rw [hw]
    refine ⟨e1, by omega, by omega, a3, by rw [e3, hh], a1⟩
  refine ⟨ht', gap', sp', rfl, rfl, rfl, ⟨?_, by omega, by omega, by omega, by omega, by omega, fun k hk => ⟨(key k hk).1, (key k hk).2.1, (key k hk).2.2.1⟩, fun k hk => (key k hk).2.2.2.1, fun k hk => (key k hk).2.2.2.2.1⟩⟩
  intro k hk
  have ht := (key k hk).2.2.2.2.2
  rw [txtOf_at (List.getElem?_eq_getElem hk)]
  unfold textB at ht
  simp only [Bool.and_eq_true, decide_eq_true_eq] at ht
  refine ⟨ht.2.1, ht.2.2, fun b hb e => ?_⟩
  have := ht.1 b hb
  rw [e] at this
  exact absurd this.1 (by decide)
theorem some_at {w : World} {L : Option Addr} {ls : List Ltr} (h : LtrsAt w L ls) (hn : 1 ≤ ls.length) : ∃ adl, L = some adl := by
  obtain ⟨ad, e, -⟩ := h.1.2 (by omega)
  exact ⟨ad, e⟩
/-- What is wrong with a text that a font is to set. -/
def fsetErr (fe : Int) (ls : List Ltr) (ht gap sp : Int) (t : List UInt8) : Int := if fe = 0 then setErr ls ht.toNat gap.toNat sp.toNat t else fe
def WidthRes (fe : Int) (ls : List Ltr) (ht gap sp : Int) (t : List UInt8) (w : World) (e : Ending) (w' : World) : Prop := ∃ x, e = .returned (.tuple #[.int .i64 x, .int .i64 (fsetErr fe ls ht gap sp t)]) ∧ (fsetErr fe ls ht gap sp t ≠ 0 → x = 0) ∧ (fsetErr fe ls ht gap sp t = 0 → x = (wideOf ls gap.toNat sp.toNat t : Int)) ∧ Bl w w'
set_option maxRecDepth 100000 in
set_option maxHeartbeats 4000000 in
theorem width_any (nm : List UInt8) (ht gap sp : Int) (L : Option Addr) (c : Nat) (ls : List Ltr) (t : List UInt8) (w : World) (hL : LtrsAt w L ls) (hnm : nm.length ≤ 9223372036854775807) (hn : ls.length ≤ 9223372036854775807) (htl : t.length ≤ 1048576) (hv : SubOk w) :
    Calls Tryd.prog 29 #[.agg #[.string ⟨nm.toArray⟩, .int .i64 ht, .int .i64 gap, .int .i64 sp, .slice L ls.length c], .string ⟨t.toArray⟩] w (WidthRes (fontErr (nameB nm) ht gap sp ls) ls ht gap sp t w) := by
  let w2 := (w).alloc (.cells #[.string ⟨nm.toArray⟩, .int .i64 ht, .int .i64 gap, .int .i64 sp, .slice L ls.length c] 24)
  have w2b : Bl w w2 := (Bl.refl w).alloc _
  have w21 : Blk w2 (w.heap.size) 24 #[.string ⟨nm.toArray⟩, .int .i64 ht, .int .i64 gap, .int .i64 sp, .slice L ls.length c] := by
    have h0 := Blk.new (w) 24 #[.string ⟨nm.toArray⟩, .int .i64 ht, .int .i64 gap, .int .i64 sp, .slice L ls.length c]
    exact h0
  have HL := Lib.hid (hL.bl w2b)
  have HV := Lib.hid (hv.bl w2b)
  obtain ⟨fe, hfe⟩ : ∃ x, x = fontErr (nameB nm) ht gap sp ls := ⟨_, rfl⟩
  have hck := check_any nm ht gap sp L c ls w2 (hL.bl w2b) hnm hn
  rw [← hfe] at hck ⊢
  have Hck := Lib.hid hck; have HFe := Lib.hid hfe
  have k1 := w21.all5
  clear hL hck hfe hv
  go_enter Tryd.func29, Tryd.ntmps29
  go_wp2_with fail
  refine Hck.out.mono ?_
  rintro e w3 ⟨rfl, hb3⟩
  clear_value w2
  clear k1 Hck
  by_cases hz : fe = 0
  case neg =>
    have hq : (fe != 0) = true := by simp [hz]
    have hq2 : (fe == 0) = false := by simp [hz]
    have HZ := Lib.hid hz
    have HE := Lib.hid (show fsetErr fe ls ht gap sp t = fe from if_neg hz)
    clear hz
    go_wp2_with fail
    exact bodyPost_ret (v := .tuple #[.int .i64 0, .int .i64 fe]) (by simp [results, Tryd.results29, go_sem]) rfl ⟨0, by rw [HE.out], fun _ => rfl, fun h => absurd (HE.out.symm.trans h) HZ.out, w2b.trans hb3⟩
  case pos =>
    subst hz
    obtain ⟨ht', gap', sp', rfl, rfl, rfl, hR⟩ := right_of HFe.out.symm
    obtain ⟨adl, rfl⟩ := some_at HL.out hR.many.1
    have hs := spelledG_any nm ht' gap' sp' adl c ls t w3 (HL.out.bl hb3) hR (Nat.le_trans htl (by decide)) (HV.out.bl hb3)
    have Hs := Lib.hid hs; have HR := Lib.hid hR
    have k1 := (w21.bl hb3).all5
    clear hs hR
    go_wp2_with fail
    refine Hs.out.mono ?_
    rintro e w4 ⟨R, m, d, wd, err, rfl, herr, hbad, hok, hb4⟩
    have hfs : fsetErr 0 ls ht' gap' sp' t = setErr ls ht' gap' sp' t := by unfold fsetErr; rw [if_pos rfl]; simp
    have HFs := Lib.hid hfs
    have HOk := Lib.hid hok; have HErr := Lib.hid herr
    clear hok herr k1 Hs hbad hfs
    by_cases hz : err = 0
    case neg =>
      have hq : (err == 0) = false := by simp [hz]
      have hq2 : (err != 0) = true := by simp [hz]
      have HZ := Lib.hid hz
      have hse : setErr ls ht' gap' sp' t = err := by
        unfold setErr
        rw [← HErr.out, if_neg hz]
      have HSe := Lib.hid hse
      clear hz hse
      go_wp2_with fail
      exact bodyPost_ret (v := .tuple #[.int .i64 0, .int .i64 err]) (by simp [results, Tryd.results29, go_sem]) rfl ⟨0, by rw [HFs.out, HSe.out], fun _ => rfl, fun h => absurd ((HFs.out.trans HSe.out).symm.trans h) HZ.out, w2b.trans (hb3.trans hb4)⟩
    case pos =>
      subst hz
      obtain ⟨-, l, hl⟩ := textErr_zero HErr.out.symm
      obtain ⟨rfl, -, -, -⟩ := HOk.out rfl l hl
      have hwo : wideOf ls gap' sp' t = (goAll ls gap' sp' (0, false) l).1 := by unfold wideOf; rw [itemsOf_some hl]
      rw [← hwo]
      obtain ⟨W, hW⟩ : ∃ W, W = wideOf ls gap' sp' t := ⟨_, rfl⟩
      rw [← hW]
      have hse : setErr ls ht' gap' sp' t = sizeErr W ht' := by unfold setErr; rw [← HErr.out, if_pos rfl, hW]
      have HSe := Lib.hid (HFs.out.trans hse)
      have HW := Lib.hid hW
      have k1 := (w21.bl (hb3.trans hb4)).all5
      obtain ⟨E, hE⟩ : ∃ E, E = sizeErr (W : Int) (ht' : Int) := ⟨_, rfl⟩
      rw [← hE] at HSe
      have Hcs := Lib.hid (checkSize_any (W : Int) (ht' : Int) w4)
      have hEE := hE.symm
      have HEE := Lib.hid hE
      clear hl hwo hW hse hE
      go_wp2_with fail
      refine Hcs.out.mono ?_
      rintro e w' ⟨rfl, rfl⟩
      rw [hEE]
      clear hEE
      by_cases hz : E = 0
      · subst hz
        go_wp2_with fail
        exact bodyPost_ret (v := .tuple #[.int .i64 W, .int .i64 0]) (by simp [results, Tryd.results29, go_sem]) rfl ⟨W, by rw [HSe.out], fun h => absurd HSe.out h, fun _ => by rw [HW.out]; simp, w2b.trans (hb3.trans hb4)⟩
      · have hq : (E != 0) = true := by simp [hz]
        have HZ := Lib.hid hz
        clear hz
        go_wp2_with fail
        exact bodyPost_ret (v := .tuple #[.int .i64 0, .int .i64 E]) (by simp [results, Tryd.results29, go_sem]) rfl ⟨0, by rw [HSe.out], fun _ => rfl, fun h => absurd (HSe.out.symm.trans h) HZ.out, w2b.trans (hb3.trans hb4)⟩

end Go.Proofs.YtjelhdpcaileiaaDoor
