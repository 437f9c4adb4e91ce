/- bedref2.BrokenOf: the rules that values break. -/
import Derived.Test.YtahfkahfaiidgaaGreatDoorMClaimFormRules25
import Derived.Test.YtahfkahfaiidgaaGreatDoorMClaimFormRules29
import Derived.Test.YtahfkahfaiidgaaGreatDoorMClaimFormRules20
import Derived.Laws.RangeAny

namespace Go.Proofs.YtahfkahfaiidgaaGreatDoor
open Go.RowKit Go.Shelf

def BrokenRes (b : List Brk) (e : Ending) (w' : World) : Prop := ∃ A c, e = .returned (.slice A b.length c) ∧ Reads w' 2 A b.length (b.flatMap Brk.cells)
set_option maxRecDepth 100000 in
set_option maxHeartbeats 8000000 in
theorem brokenOf_any (f : Frm) (L : Option Addr) (c : Nat) (l : List Vlu) (w : World) (hf : f.err = 0) (hF : FrmAt w f) (hL : VlusAt w L l) (_hlc : l.length ≤ c) (hln : l.length ≤ 9223372036854775807) (hS : f.small 1048576) (hT : ∀ v ∈ l, v.text.length ≤ 1048576) (hC : SplitOk w) :
    Calls Tryz.prog 10 #[f.val, .slice L l.length c] w fun e w' => BrokenRes (brokenL l f.lr f.lf) e w' ∧ Bl w w' := by
  have Hok2 := Lib.hid (frm_ok hf)
  obtain ⟨nm, fW, fH, reach, dark, AL, ac, la, FL, fc, lf, RL, rc, lr⟩ := f
  show Calls _ _ _ w fun e w' => BrokenRes (brokenL l lr lf) e w' ∧ Bl w w'
  let w1 := ((w).alloc (.cells #[.string ⟨nm.toArray⟩, .int .i64 fW, .int .i64 fH, .int .i64 reach, .int .i64 dark, .slice AL la.length ac, .slice FL lf.length fc, .slice RL lr.length rc] 26)).alloc (.cells #[.slice L l.length c] 27)
  have w1b : Bl w w1 := ((Bl.refl w).alloc _).alloc _
  have w11 : Blk w1 (w.heap.size) 26 #[.string ⟨nm.toArray⟩, .int .i64 fW, .int .i64 fH, .int .i64 reach, .int .i64 dark, .slice AL la.length ac, .slice FL lf.length fc, .slice RL lr.length rc] := by
    have h0 := Blk.new (w) 26 #[.string ⟨nm.toArray⟩, .int .i64 fW, .int .i64 fH, .int .i64 reach, .int .i64 dark, .slice AL la.length ac, .slice FL lf.length fc, .slice RL lr.length rc]
    exact (h0.alloc _)
  have w12 : Blk w1 (w.heap.size + 1) 27 #[.slice L l.length c] := by
    have h0 := Blk.new ((w).alloc (.cells #[.string ⟨nm.toArray⟩, .int .i64 fW, .int .i64 fH, .int .i64 reach, .int .i64 dark, .slice AL la.length ac, .slice FL lf.length fc, .slice RL lr.length rc] 26)) 27 #[.slice L l.length c]
    simp only [World.size_alloc] at h0
    exact h0
  have HF := Lib.hid (hF.bl w1b); have HL := Lib.hid (hL.bl w1b); have HC := Lib.hid (hC.bl w1b)
  have HT := Lib.hid hT; have HS := Lib.hid hS
  have hVs : ∀ v ∈ l, v.text.length ≤ 1048576 ∧ v.marks.length ≤ 9223372036854775807 := fun v hv => ⟨hT v hv, (hL.2 v hv).2.2.2⟩
  have Hget := Lib.hid (fun (n : List UInt8) wx (h : Bl w1 wx) => get_any L c l (w.heap.size + 1) n wx (w12.bl h) ((hL.bl w1b).bl h) hln)
  have HVl := Lib.hid (fun (n : List UInt8) => vluOf_ind l n (Q := fun v => v.text.length ≤ 1048576 ∧ v.marks.length ≤ 9223372036854775807) ⟨Nat.zero_le _, Nat.zero_le _⟩ hVs)
  have hlr : lr.length ≤ 50 := Hok2.out.2.1
  have hlf : lf.length ≤ 50 := Hok2.out.1
  have k1 := w11.all8
  have k2 := w12.all1
  have HW1b := Lib.hid w1b
  unfold Frm.val
  clear hF hL hC hT hS hVs w1b
  go_enter Tryz.func10, Tryz.ntmps10
  go_upto_region 1 with fail
  rw [show (w.alloc (.cells #[.string ⟨nm.toArray⟩, .int .i64 fW, .int .i64 fH, .int .i64 reach, .int .i64 dark, .slice AL la.length ac, .slice FL lf.length fc, .slice RL lr.length rc] 26)).alloc (.cells #[.slice L l.length c] 27) = w1 from rfl]
  clear_value w1
  go_wp2_with fail
  go_loopw [7, 23] (fun b u wy => ∃ i : Nat, i ≤ lr.length ∧ u = .int .i64 i ∧ Bl w1 wy ∧ wy.ownsRow w1.heap.size 37 2 b (brokenR l lr i).length ((brokenR l lr i).flatMap Brk.cells)) (fun _ u _ => lr.length - (RowKit.intOf u).toNat)
  case atStart => exact ⟨0, Nat.zero_le _, rfl, Bl.refl _, World.ownsRow_nil _ _ _ _⟩
  case round =>
    clear k1 k2
    rename World => wy
    obtain ⟨i, hi, rfl, hby, hown⟩ := hrel
    have k1 := (w11.bl hby).all8
    by_cases hlt : i < lr.length
    · have hg : lr[i]? = some lr[i] := List.getElem?_eq_getElem hlt
      obtain ⟨r, hr⟩ : ∃ x, x = lr[i] := ⟨_, rfl⟩
      rw [← hr] at hg
      obtain ⟨ad, eA, j1, j2, j3, j4⟩ := (HF.out.ruls.bl hby).at_ hg
      simp only at eA
      subst eA
      have hok := rulErr_ok (Hok2.out.2.2.1 r (List.mem_of_getElem? hg))
      have hsm := HS.out r (List.mem_of_getElem? hg)
      have HG := Lib.hid hg
      obtain ⟨RK, hRK⟩ : ∃ b, b = brokenR l lr (i + 1) := ⟨_, rfl⟩
      have HRK := Lib.hid (show holdsB r (vluOf l r.field) (vluOf l r.other) = true → RK = brokenR l lr i from fun h => by rw [hRK, brokenR_keep hg h])
      have HRM := Lib.hid (show holdsB r (vluOf l r.field) (vluOf l r.other) = false → RK = brokenR l lr i ++ [⟨i, r.field⟩] from fun h => by rw [hRK, brokenR_more hg h])
      have Hok3 := Lib.hid hok; have Hsm := Lib.hid hsm
      have Hby := Lib.hid hby; have HOw := Lib.hid hown; have HRKe := Lib.hid hRK
      have hlen := brokenR_len l lr i
      clear hg hr hby hown hok hsm hRK
      obtain ⟨k, rf, ro, rt⟩ := r
      go_upto_region 7 with fail
      obtain ⟨w8, hw8⟩ : ∃ x, x = wy.alloc (.cells #[.int .i64 k, .string ⟨rf.toArray⟩, .string ⟨ro.toArray⟩, .string ⟨rt.toArray⟩] 76) := ⟨_, rfl⟩
      have b8 : Blk w8 wy.heap.size 76 #[.int .i64 k, .string ⟨rf.toArray⟩, .string ⟨ro.toArray⟩, .string ⟨rt.toArray⟩] := by rw [hw8]; exact Blk.new _ _ _
      have hb8 : Bl wy w8 := by rw [hw8]; exact (Bl.refl _).alloc _
      rw [← hw8]
      have B8 := Lib.hid b8; have Hb8 := Lib.hid (Hby.out.trans hb8); have Hby8 := Lib.hid hb8
      have k1 := (w11.bl Hb8.out).all8
      have k2 := b8.all4
      have hv1 := HVl.out rf
      have hv2 := HVl.out ro
      have hg1 := Hget.out rf
      have hg2 := Hget.out ro
      obtain ⟨v, hv⟩ : ∃ v, v = vluOf l rf := ⟨_, rfl⟩
      obtain ⟨o, ho⟩ : ∃ v, v = vluOf l ro := ⟨_, rfl⟩
      rw [← hv] at hv1 hg1
      rw [← ho] at hv2 hg2
      replace HRK : Hid (holdsB ⟨k, rf, ro, rt⟩ v o = true → RK = brokenR l lr i) := by rw [hv, ho]; exact HRK
      replace HRM : Hid (holdsB ⟨k, rf, ro, rt⟩ v o = false → RK = brokenR l lr i ++ [⟨i, rf⟩]) := by rw [hv, ho]; exact HRM
      replace Hok3 : Hid (inB k 1 6 = true ∧ (k = 6 → (int2 rt).isSome = true)) := Hok3
      replace Hsm : Hid (rt.length ≤ 1048576) := Hsm
      obtain ⟨vf, vt, vM, vc, vm, vS⟩ := v
      obtain ⟨of, ot, oM, oc, om, oS⟩ := o
      unfold Vlu.val at hg1 hg2
      simp only at hv1 hv2
      have Hg1 := Lib.hid hg1; have Hg2 := Lib.hid hg2
      clear hw8 b8 hb8 j1 j2 j3 j4 hg1 hg2 hv ho
      go_cut [10, 11] from 28 to 36 (fun s5 s6 wc => ∃ p q, s5 = .pointer (some ⟨p, 0, none⟩) ∧ s6 = .pointer (some ⟨q, 0, none⟩) ∧ Blk wc p 73 #[.string ⟨vf.toArray⟩, .string ⟨vt.toArray⟩, .slice vM vm.length vc, .int .i64 vS] ∧ Blk wc q 73 #[.string ⟨of.toArray⟩, .string ⟨ot.toArray⟩, .slice oM om.length oc, .int .i64 oS] ∧ Bl w8 wc)
      case first =>
        refine wp_region_tree (Bl w8) [(true, 0), (true, 1), (true, 2), (true, 4), (true, 5), (true, 6)] (.one 3 [] (.one 7 [] (.one 8 [] (.one 9 [] (.one 10 [] (.one 11 [] .none .none) .none) .none) (.one 9 [] (.one 8 [] (.one 10 [] (.one 11 [] .none .none) .none) .none) .none)) (.one 8 [] (.one 7 [] (.one 9 [] (.one 10 [] (.one 11 [] .none .none) .none) .none) (.one 9 [] (.one 7 [] (.one 10 [] (.one 11 [] .none .none) .none) .none) .none)) (.one 9 [] (.one 7 [] (.one 8 [] (.one 10 [] (.one 11 [] .none .none) .none) .none) (.one 8 [] (.one 7 [] (.one 10 [] (.one 11 [] .none .none) .none) .none) .none)) .none))) (.one 8 [] (.one 3 [] (.one 7 [] (.one 9 [] (.one 10 [] (.one 11 [] .none .none) .none) .none) (.one 9 [] (.one 7 [] (.one 10 [] (.one 11 [] .none .none) .none) .none) .none)) (.one 9 [] (.one 3 [] (.one 7 [] (.one 10 [] (.one 11 [] .none .none) .none) .none) .none) .none)) (.one 9 [] (.one 3 [] (.one 7 [] (.one 8 [] (.one 10 [] (.one 11 [] .none .none) .none) .none) (.one 8 [] (.one 7 [] (.one 10 [] (.one 11 [] .none .none) .none) .none) .none)) (.one 8 [] (.one 3 [] (.one 7 [] (.one 10 [] (.one 11 [] .none .none) .none) .none) .none) .none)) .none))) (by kernel_rfl) (by kernel_rfl) (by kernel_rfl) (by kernel_rfl) (Bl.drew (Bl.refl w8)) ?_
        obtain ⟨wxd, hwxd⟩ : ∃ x, x = (w8).drew := ⟨_, rfl⟩
        have HBD : Bl w8 wxd := by rw [hwxd]; exact Bl.drew (Bl.refl w8)
        rw [← hwxd]
        clear hwxd
        iterate 1
          apply FlowS.mv _ rfl
          · intro K' hK'
            simp only [Act.put, Act.eval, List.setIfInBounds_toArray, List.set_cons_zero, List.set_cons_succ, arr_getD, List.getD_cons_zero, List.getD_cons_succ]
            exact hK'
        iterate 1
          apply FlowS.calm2 _ _ rfl rfl
          · intro w' hb' K' hK'
            obtain ⟨hc', hf'⟩ := hb'.rule
            go_simp
            try go_ints
            exact hK'
          · intro K' hK'
            simp only [Act.put, List.setIfInBounds_toArray, List.set_cons_zero, List.set_cons_succ]
            exact hK'
        iterate 1
          apply FlowS.calm2 _ _ rfl rfl
          · intro w' hb' K' hK'
            obtain ⟨hc', hf'⟩ := hb'.rule
            go_simp
            try go_ints
            exact hK'
          · intro K' hK'
            simp only [Act.put, List.setIfInBounds_toArray, List.set_cons_zero, List.set_cons_succ]
            exact hK'
        iterate 1
          apply FlowS.mv _ rfl
          · intro K' hK'
            simp only [Act.put, Act.eval, List.setIfInBounds_toArray, List.set_cons_zero, List.set_cons_succ, arr_getD, List.getD_cons_zero, List.getD_cons_succ]
            exact hK'
        iterate 1
          apply FlowS.calm2 _ _ rfl rfl
          · intro w' hb' K' hK'
            obtain ⟨hc', hf'⟩ := hb'.rule
            go_simp
            try go_ints
            exact hK'
          · intro K' hK'
            simp only [Act.put, List.setIfInBounds_toArray, List.set_cons_zero, List.set_cons_succ]
            exact hK'
        iterate 1
          apply FlowS.calm2 _ _ rfl rfl
          · intro w' hb' K' hK'
            obtain ⟨hc', hf'⟩ := hb'.rule
            go_simp
            try go_ints
            exact hK'
          · intro K' hK'
            simp only [Act.put, List.setIfInBounds_toArray, List.set_cons_zero, List.set_cons_succ]
            exact hK'
        refine Tree.fork ?_
        refine Tree.part rfl ?_ ?_
        · skip
          go_wp2_with fail
          refine (Hg1.out _ (Hb8.out.trans HBD)).mono ?_
          rintro e wx3 ⟨rfl, bb3⟩
          have HB3 : Bl w8 wx3 := (HBD).trans bb3
          go_wp2_with fail
          refine ⟨HB3, ?_⟩
          refine Tree.fork ?_
          refine Tree.part rfl ?_ ?_
          · skip
            go_wp2_with fail
            refine (Hg2.out _ (Hb8.out.trans HB3)).mono ?_
            rintro e wx7 ⟨rfl, bb7⟩
            have HB7 : Bl w8 wx7 := (HB3).trans bb7
            go_wp2_with fail
            refine ⟨HB7, ?_⟩
            refine Tree.fork ?_
            refine Tree.part rfl ?_ ?_
            · skip
              go_wp2_with fail
              obtain ⟨wx8, hwx8⟩ : ∃ x, x = (wx7).alloc (.cells #[.string ⟨#[]⟩, .string ⟨#[]⟩, .slice none 0 0, .int .i64 0] 73) := ⟨_, rfl⟩
              have bk8 : Blk wx8 (wx7).heap.size 73 #[.string ⟨#[]⟩, .string ⟨#[]⟩, .slice none 0 0, .int .i64 0] := by rw [hwx8]; exact Blk.new _ _ _
              have bb8 : Bl wx7 wx8 := by rw [hwx8]; exact (Bl.refl _).alloc _
              rw [← hwx8]
              clear hwx8
              have HB8 : Bl w8 wx8 := (HB7).trans bb8
              refine ⟨HB8, ?_⟩
              refine Tree.fork ?_
              refine Tree.part rfl ?_ ?_
              · skip
                go_wp2_with fail
                obtain ⟨wx9, hwx9⟩ : ∃ x, x = (wx8).alloc (.cells #[.string ⟨#[]⟩, .string ⟨#[]⟩, .slice none 0 0, .int .i64 0] 73) := ⟨_, rfl⟩
                have bk9 : Blk wx9 (wx8).heap.size 73 #[.string ⟨#[]⟩, .string ⟨#[]⟩, .slice none 0 0, .int .i64 0] := by rw [hwx9]; exact Blk.new _ _ _
                have bb9 : Bl wx8 wx9 := by rw [hwx9]; exact (Bl.refl _).alloc _
                rw [← hwx9]
                clear hwx9
                have HB9 : Bl w8 wx9 := (HB8).trans bb9
                have bk8_9 := (bk8).bl bb9
                refine ⟨HB9, ?_⟩
                refine Tree.fork ?_
                refine Tree.part rfl ?_ ?_
                · skip
                  have kst := (bk8_9).all4
                  go_wp2_with fail
                  obtain ⟨wx10, hwx10⟩ : ∃ x, x = ((((wx9.setCell ⟨wx7.heap.size, 0, none⟩ (.string ⟨vf.toArray⟩)).setCell ⟨wx7.heap.size, 1, none⟩ (.string ⟨vt.toArray⟩)).setCell ⟨wx7.heap.size, 2, none⟩ (.slice vM vm.length vc)).setCell ⟨wx7.heap.size, 3, none⟩ (.int .i64 vS)) := ⟨_, rfl⟩
                  rw [← hwx10]
                  have bk8_10 : Blk wx10 wx7.heap.size 73 #[.string ⟨vf.toArray⟩, .string ⟨vt.toArray⟩, .slice vM vm.length vc, .int .i64 vS] := by rw [hwx10]; exact (((((bk8_9).set_ 0 _).set_ 1 _).set_ 2 _).set_ 3 _)
                  have bk9_10 : Blk wx10 wx8.heap.size 73 #[.string ⟨#[]⟩, .string ⟨#[]⟩, .slice none 0 0, .int .i64 0] := by
                    have hne : wx8.heap.size ≠ wx7.heap.size := by
                      have hle3 := bb3.le
                      have hle7 := bb7.le
                      have hle8 := bb8.le
                      have hle9 := bb9.le
                      have hlt8 := bk8.lt
                      have hlt9 := bk9.lt
                      omega
                    rw [hwx10]
                    exact (((((bk9).far (p := ⟨wx7.heap.size, 0, none⟩) hne _).far (p := ⟨wx7.heap.size, 1, none⟩) hne _).far (p := ⟨wx7.heap.size, 2, none⟩) hne _).far (p := ⟨wx7.heap.size, 3, none⟩) hne _)
                  have HB10 : Bl w8 wx10 := by rw [hwx10]; exact (((((HB9).setCell (by exact HB7.le) _).setCell (by exact HB7.le) _).setCell (by exact HB7.le) _).setCell (by exact HB7.le) _)
                  clear kst hwx10
                  refine ⟨HB10, ?_⟩
                  refine Tree.fork ?_
                  refine Tree.last rfl ?_ ?_
                  · skip
                    have kst := (bk9_10).all4
                    go_wp2_with fail
                    obtain ⟨wx11, hwx11⟩ : ∃ x, x = ((((wx10.setCell ⟨wx8.heap.size, 0, none⟩ (.string ⟨of.toArray⟩)).setCell ⟨wx8.heap.size, 1, none⟩ (.string ⟨ot.toArray⟩)).setCell ⟨wx8.heap.size, 2, none⟩ (.slice oM om.length oc)).setCell ⟨wx8.heap.size, 3, none⟩ (.int .i64 oS)) := ⟨_, rfl⟩
                    rw [← hwx11]
                    have bk9_11 : Blk wx11 wx8.heap.size 73 #[.string ⟨of.toArray⟩, .string ⟨ot.toArray⟩, .slice oM om.length oc, .int .i64 oS] := by rw [hwx11]; exact (((((bk9_10).set_ 0 _).set_ 1 _).set_ 2 _).set_ 3 _)
                    have bk8_11 : Blk wx11 wx7.heap.size 73 #[.string ⟨vf.toArray⟩, .string ⟨vt.toArray⟩, .slice vM vm.length vc, .int .i64 vS] := by
                      have hne : wx7.heap.size ≠ wx8.heap.size := by
                        have hle3 := bb3.le
                        have hle7 := bb7.le
                        have hle8 := bb8.le
                        have hle9 := bb9.le
                        have hlt8 := bk8.lt
                        have hlt9 := bk9.lt
                        omega
                      rw [hwx11]
                      exact (((((bk8_10).far (p := ⟨wx8.heap.size, 0, none⟩) hne _).far (p := ⟨wx8.heap.size, 1, none⟩) hne _).far (p := ⟨wx8.heap.size, 2, none⟩) hne _).far (p := ⟨wx8.heap.size, 3, none⟩) hne _)
                    have HB11 : Bl w8 wx11 := by rw [hwx11]; exact (((((HB10).setCell (by exact HB8.le) _).setCell (by exact HB8.le) _).setCell (by exact HB8.le) _).setCell (by exact HB8.le) _)
                    clear kst hwx11
                    refine ⟨HB11, ?_⟩
                    refine FlowS.done ?_
                    go_wp2_with fail
                    go_meet
                    case rel => exact ⟨_, _, rfl, rfl, bk8_11, bk9_11, HB11⟩
                  exact Tree.nil
                exact Tree.nil
              exact Tree.nil
            refine Tree.part rfl ?_ ?_
            · skip
              go_wp2_with fail
              obtain ⟨wx9, hwx9⟩ : ∃ x, x = (wx7).alloc (.cells #[.string ⟨#[]⟩, .string ⟨#[]⟩, .slice none 0 0, .int .i64 0] 73) := ⟨_, rfl⟩
              have bk9 : Blk wx9 (wx7).heap.size 73 #[.string ⟨#[]⟩, .string ⟨#[]⟩, .slice none 0 0, .int .i64 0] := by rw [hwx9]; exact Blk.new _ _ _
              have bb9 : Bl wx7 wx9 := by rw [hwx9]; exact (Bl.refl _).alloc _
              rw [← hwx9]
              clear hwx9
              have HB9 : Bl w8 wx9 := (HB7).trans bb9
              refine ⟨HB9, ?_⟩
              refine Tree.fork ?_
              refine Tree.part rfl ?_ ?_
              · skip
                go_wp2_with fail
                obtain ⟨wx8, hwx8⟩ : ∃ x, x = (wx9).alloc (.cells #[.string ⟨#[]⟩, .string ⟨#[]⟩, .slice none 0 0, .int .i64 0] 73) := ⟨_, rfl⟩
                have bk8 : Blk wx8 (wx9).heap.size 73 #[.string ⟨#[]⟩, .string ⟨#[]⟩, .slice none 0 0, .int .i64 0] := by rw [hwx8]; exact Blk.new _ _ _
                have bb8 : Bl wx9 wx8 := by rw [hwx8]; exact (Bl.refl _).alloc _
                rw [← hwx8]
                clear hwx8
                have HB8 : Bl w8 wx8 := (HB9).trans bb8
                have bk9_8 := (bk9).bl bb8
                refine ⟨HB8, ?_⟩
                refine Tree.fork ?_
                refine Tree.part rfl ?_ ?_
                · skip
                  have kst := (bk8).all4
                  go_wp2_with fail
                  obtain ⟨wx10, hwx10⟩ : ∃ x, x = ((((wx8.setCell ⟨wx9.heap.size, 0, none⟩ (.string ⟨vf.toArray⟩)).setCell ⟨wx9.heap.size, 1, none⟩ (.string ⟨vt.toArray⟩)).setCell ⟨wx9.heap.size, 2, none⟩ (.slice vM vm.length vc)).setCell ⟨wx9.heap.size, 3, none⟩ (.int .i64 vS)) := ⟨_, rfl⟩
                  rw [← hwx10]
                  have bk8_10 : Blk wx10 wx9.heap.size 73 #[.string ⟨vf.toArray⟩, .string ⟨vt.toArray⟩, .slice vM vm.length vc, .int .i64 vS] := by rw [hwx10]; exact (((((bk8).set_ 0 _).set_ 1 _).set_ 2 _).set_ 3 _)
                  have bk9_10 : Blk wx10 wx7.heap.size 73 #[.string ⟨#[]⟩, .string ⟨#[]⟩, .slice none 0 0, .int .i64 0] := by
                    have hne : wx7.heap.size ≠ wx9.heap.size := by
                      have hle3 := bb3.le
                      have hle7 := bb7.le
                      have hle9 := bb9.le
                      have hle8 := bb8.le
                      have hlt8 := bk8.lt
                      have hlt9 := bk9.lt
                      omega
                    rw [hwx10]
                    exact (((((bk9_8).far (p := ⟨wx9.heap.size, 0, none⟩) hne _).far (p := ⟨wx9.heap.size, 1, none⟩) hne _).far (p := ⟨wx9.heap.size, 2, none⟩) hne _).far (p := ⟨wx9.heap.size, 3, none⟩) hne _)
                  have HB10 : Bl w8 wx10 := by rw [hwx10]; exact (((((HB8).setCell (by exact HB9.le) _).setCell (by exact HB9.le) _).setCell (by exact HB9.le) _).setCell (by exact HB9.le) _)
                  clear kst hwx10
                  refine ⟨HB10, ?_⟩
                  refine Tree.fork ?_
                  refine Tree.last rfl ?_ ?_
                  · skip
                    have kst := (bk9_10).all4
                    go_wp2_with fail
                    obtain ⟨wx11, hwx11⟩ : ∃ x, x = ((((wx10.setCell ⟨wx7.heap.size, 0, none⟩ (.string ⟨of.toArray⟩)).setCell ⟨wx7.heap.size, 1, none⟩ (.string ⟨ot.toArray⟩)).setCell ⟨wx7.heap.size, 2, none⟩ (.slice oM om.length oc)).setCell ⟨wx7.heap.size, 3, none⟩ (.int .i64 oS)) := ⟨_, rfl⟩
                    rw [← hwx11]
                    have bk9_11 : Blk wx11 wx7.heap.size 73 #[.string ⟨of.toArray⟩, .string ⟨ot.toArray⟩, .slice oM om.length oc, .int .i64 oS] := by rw [hwx11]; exact (((((bk9_10).set_ 0 _).set_ 1 _).set_ 2 _).set_ 3 _)
                    have bk8_11 : Blk wx11 wx9.heap.size 73 #[.string ⟨vf.toArray⟩, .string ⟨vt.toArray⟩, .slice vM vm.length vc, .int .i64 vS] := by
                      have hne : wx9.heap.size ≠ wx7.heap.size := by
                        have hle3 := bb3.le
                        have hle7 := bb7.le
                        have hle9 := bb9.le
                        have hle8 := bb8.le
                        have hlt8 := bk8.lt
                        have hlt9 := bk9.lt
                        omega
                      rw [hwx11]
                      exact (((((bk8_10).far (p := ⟨wx7.heap.size, 0, none⟩) hne _).far (p := ⟨wx7.heap.size, 1, none⟩) hne _).far (p := ⟨wx7.heap.size, 2, none⟩) hne _).far (p := ⟨wx7.heap.size, 3, none⟩) hne _)
                    have HB11 : Bl w8 wx11 := by rw [hwx11]; exact (((((HB10).setCell (by exact HB7.le) _).setCell (by exact HB7.le) _).setCell (by exact HB7.le) _).setCell (by exact HB7.le) _)
                    clear kst hwx11
                    refine ⟨HB11, ?_⟩
                    refine FlowS.done ?_
                    go_wp2_with fail
                    go_meet
                    case rel => exact ⟨_, _, rfl, rfl, bk8_11, bk9_11, HB11⟩
                  exact Tree.nil
                exact Tree.nil
              exact Tree.nil
            exact Tree.nil
          refine Tree.part rfl ?_ ?_
          · skip
            go_wp2_with fail
            obtain ⟨wx8, hwx8⟩ : ∃ x, x = (wx3).alloc (.cells #[.string ⟨#[]⟩, .string ⟨#[]⟩, .slice none 0 0, .int .i64 0] 73) := ⟨_, rfl⟩
            have bk8 : Blk wx8 (wx3).heap.size 73 #[.string ⟨#[]⟩, .string ⟨#[]⟩, .slice none 0 0, .int .i64 0] := by rw [hwx8]; exact Blk.new _ _ _
            have bb8 : Bl wx3 wx8 := by rw [hwx8]; exact (Bl.refl _).alloc _
            rw [← hwx8]
            clear hwx8
            have HB8 : Bl w8 wx8 := (HB3).trans bb8
            refine ⟨HB8, ?_⟩
            refine Tree.fork ?_
            refine Tree.part rfl ?_ ?_
            · skip
              go_wp2_with fail
              refine (Hg2.out _ (Hb8.out.trans HB8)).mono ?_
              rintro e wx7 ⟨rfl, bb7⟩
              have HB7 : Bl w8 wx7 := (HB8).trans bb7
              have bk8_7 := (bk8).bl bb7
              go_wp2_with fail
              refine ⟨HB7, ?_⟩
              refine Tree.fork ?_
              refine Tree.part rfl ?_ ?_
              · skip
                go_wp2_with fail
                obtain ⟨wx9, hwx9⟩ : ∃ x, x = (wx7).alloc (.cells #[.string ⟨#[]⟩, .string ⟨#[]⟩, .slice none 0 0, .int .i64 0] 73) := ⟨_, rfl⟩
                have bk9 : Blk wx9 (wx7).heap.size 73 #[.string ⟨#[]⟩, .string ⟨#[]⟩, .slice none 0 0, .int .i64 0] := by rw [hwx9]; exact Blk.new _ _ _
                have bb9 : Bl wx7 wx9 := by rw [hwx9]; exact (Bl.refl _).alloc _
                rw [← hwx9]
                clear hwx9
                have HB9 : Bl w8 wx9 := (HB7).trans bb9
                have bk8_9 := (bk8_7).bl bb9
                refine ⟨HB9, ?_⟩
                refine Tree.fork ?_
                refine Tree.part rfl ?_ ?_
                · skip
                  have kst := (bk8_9).all4
                  go_wp2_with fail
                  obtain ⟨wx10, hwx10⟩ : ∃ x, x = ((((wx9.setCell ⟨wx3.heap.size, 0, none⟩ (.string ⟨vf.toArray⟩)).setCell ⟨wx3.heap.size, 1, none⟩ (.string ⟨vt.toArray⟩)).setCell ⟨wx3.heap.size, 2, none⟩ (.slice vM vm.length vc)).setCell ⟨wx3.heap.size, 3, none⟩ (.int .i64 vS)) := ⟨_, rfl⟩
                  rw [← hwx10]
                  have bk8_10 : Blk wx10 wx3.heap.size 73 #[.string ⟨vf.toArray⟩, .string ⟨vt.toArray⟩, .slice vM vm.length vc, .int .i64 vS] := by rw [hwx10]; exact (((((bk8_9).set_ 0 _).set_ 1 _).set_ 2 _).set_ 3 _)
                  have bk9_10 : Blk wx10 wx7.heap.size 73 #[.string ⟨#[]⟩, .string ⟨#[]⟩, .slice none 0 0, .int .i64 0] := by
                    have hne : wx7.heap.size ≠ wx3.heap.size := by
                      have hle3 := bb3.le
                      have hle8 := bb8.le
                      have hle7 := bb7.le
                      have hle9 := bb9.le
                      have hlt8 := bk8.lt
                      have hlt9 := bk9.lt
                      omega
                    rw [hwx10]
                    exact (((((bk9).far (p := ⟨wx3.heap.size, 0, none⟩) hne _).far (p := ⟨wx3.heap.size, 1, none⟩) hne _).far (p := ⟨wx3.heap.size, 2, none⟩) hne _).far (p := ⟨wx3.heap.size, 3, none⟩) hne _)
                  have HB10 : Bl w8 wx10 := by rw [hwx10]; exact (((((HB9).setCell (by exact HB3.le) _).setCell (by exact HB3.le) _).setCell (by exact HB3.le) _).setCell (by exact HB3.le) _)
                  clear kst hwx10
                  refine ⟨HB10, ?_⟩
                  refine Tree.fork ?_
                  refine Tree.last rfl ?_ ?_
                  · skip
                    have kst := (bk9_10).all4
                    go_wp2_with fail
                    obtain ⟨wx11, hwx11⟩ : ∃ x, x = ((((wx10.setCell ⟨wx7.heap.size, 0, none⟩ (.string ⟨of.toArray⟩)).setCell ⟨wx7.heap.size, 1, none⟩ (.string ⟨ot.toArray⟩)).setCell ⟨wx7.heap.size, 2, none⟩ (.slice oM om.length oc)).setCell ⟨wx7.heap.size, 3, none⟩ (.int .i64 oS)) := ⟨_, rfl⟩
                    rw [← hwx11]
                    have bk9_11 : Blk wx11 wx7.heap.size 73 #[.string ⟨of.toArray⟩, .string ⟨ot.toArray⟩, .slice oM om.length oc, .int .i64 oS] := by rw [hwx11]; exact (((((bk9_10).set_ 0 _).set_ 1 _).set_ 2 _).set_ 3 _)
                    have bk8_11 : Blk wx11 wx3.heap.size 73 #[.string ⟨vf.toArray⟩, .string ⟨vt.toArray⟩, .slice vM vm.length vc, .int .i64 vS] := by
                      have hne : wx3.heap.size ≠ wx7.heap.size := by
                        have hle3 := bb3.le
                        have hle8 := bb8.le
                        have hle7 := bb7.le
                        have hle9 := bb9.le
                        have hlt8 := bk8.lt
                        have hlt9 := bk9.lt
                        omega
                      rw [hwx11]
                      exact (((((bk8_10).far (p := ⟨wx7.heap.size, 0, none⟩) hne _).far (p := ⟨wx7.heap.size, 1, none⟩) hne _).far (p := ⟨wx7.heap.size, 2, none⟩) hne _).far (p := ⟨wx7.heap.size, 3, none⟩) hne _)
                    have HB11 : Bl w8 wx11 := by rw [hwx11]; exact (((((HB10).setCell (by exact HB7.le) _).setCell (by exact HB7.le) _).setCell (by exact HB7.le) _).setCell (by exact HB7.le) _)
                    clear kst hwx11
                    refine ⟨HB11, ?_⟩
                    refine FlowS.done ?_
                    go_wp2_with fail
                    go_meet
                    case rel => exact ⟨_, _, rfl, rfl, bk8_11, bk9_11, HB11⟩
                  exact Tree.nil
                exact Tree.nil
              exact Tree.nil
            refine Tree.part rfl ?_ ?_
            · skip
              go_wp2_with fail
              obtain ⟨wx9, hwx9⟩ : ∃ x, x = (wx8).alloc (.cells #[.string ⟨#[]⟩, .string ⟨#[]⟩, .slice none 0 0, .int .i64 0] 73) := ⟨_, rfl⟩
              have bk9 : Blk wx9 (wx8).heap.size 73 #[.string ⟨#[]⟩, .string ⟨#[]⟩, .slice none 0 0, .int .i64 0] := by rw [hwx9]; exact Blk.new _ _ _
              have bb9 : Bl wx8 wx9 := by rw [hwx9]; exact (Bl.refl _).alloc _
              rw [← hwx9]
              clear hwx9
              have HB9 : Bl w8 wx9 := (HB8).trans bb9
              have bk8_9 := (bk8).bl bb9
              refine ⟨HB9, ?_⟩
              refine Tree.fork ?_
              refine Tree.part rfl ?_ ?_
              · skip
                go_wp2_with fail
                refine (Hg2.out _ (Hb8.out.trans HB9)).mono ?_
                rintro e wx7 ⟨rfl, bb7⟩
                have HB7 : Bl w8 wx7 := (HB9).trans bb7
                have bk8_7 := (bk8_9).bl bb7
                have bk9_7 := (bk9).bl bb7
                go_wp2_with fail
                refine ⟨HB7, ?_⟩
                refine Tree.fork ?_
                refine Tree.part rfl ?_ ?_
                · skip
                  have kst := (bk8_7).all4
                  go_wp2_with fail
                  obtain ⟨wx10, hwx10⟩ : ∃ x, x = ((((wx7.setCell ⟨wx3.heap.size, 0, none⟩ (.string ⟨vf.toArray⟩)).setCell ⟨wx3.heap.size, 1, none⟩ (.string ⟨vt.toArray⟩)).setCell ⟨wx3.heap.size, 2, none⟩ (.slice vM vm.length vc)).setCell ⟨wx3.heap.size, 3, none⟩ (.int .i64 vS)) := ⟨_, rfl⟩
                  rw [← hwx10]
                  have bk8_10 : Blk wx10 wx3.heap.size 73 #[.string ⟨vf.toArray⟩, .string ⟨vt.toArray⟩, .slice vM vm.length vc, .int .i64 vS] := by rw [hwx10]; exact (((((bk8_7).set_ 0 _).set_ 1 _).set_ 2 _).set_ 3 _)
                  have bk9_10 : Blk wx10 wx8.heap.size 73 #[.string ⟨#[]⟩, .string ⟨#[]⟩, .slice none 0 0, .int .i64 0] := by
                    have hne : wx8.heap.size ≠ wx3.heap.size := by
                      have hle3 := bb3.le
                      have hle8 := bb8.le
                      have hle9 := bb9.le
                      have hle7 := bb7.le
                      have hlt8 := bk8.lt
                      have hlt9 := bk9.lt
                      omega
                    rw [hwx10]
                    exact (((((bk9_7).far (p := ⟨wx3.heap.size, 0, none⟩) hne _).far (p := ⟨wx3.heap.size, 1, none⟩) hne _).far (p := ⟨wx3.heap.size, 2, none⟩) hne _).far (p := ⟨wx3.heap.size, 3, none⟩) hne _)
                  have HB10 : Bl w8 wx10 := by rw [hwx10]; exact (((((HB7).setCell (by exact HB3.le) _).setCell (by exact HB3.le) _).setCell (by exact HB3.le) _).setCell (by exact HB3.le) _)
                  clear kst hwx10
                  refine ⟨HB10, ?_⟩
                  refine Tree.fork ?_
                  refine Tree.last rfl ?_ ?_
                  · skip
                    have kst := (bk9_10).all4
                    go_wp2_with fail
                    obtain ⟨wx11, hwx11⟩ : ∃ x, x = ((((wx10.setCell ⟨wx8.heap.size, 0, none⟩ (.string ⟨of.toArray⟩)).setCell ⟨wx8.heap.size, 1, none⟩ (.string ⟨ot.toArray⟩)).setCell ⟨wx8.heap.size, 2, none⟩ (.slice oM om.length oc)).setCell ⟨wx8.heap.size, 3, none⟩ (.int .i64 oS)) := ⟨_, rfl⟩
                    rw [← hwx11]
                    have bk9_11 : Blk wx11 wx8.heap.size 73 #[.string ⟨of.toArray⟩, .string ⟨ot.toArray⟩, .slice oM om.length oc, .int .i64 oS] := by rw [hwx11]; exact (((((bk9_10).set_ 0 _).set_ 1 _).set_ 2 _).set_ 3 _)
                    have bk8_11 : Blk wx11 wx3.heap.size 73 #[.string ⟨vf.toArray⟩, .string ⟨vt.toArray⟩, .slice vM vm.length vc, .int .i64 vS] := by
                      have hne : wx3.heap.size ≠ wx8.heap.size := by
                        have hle3 := bb3.le
                        have hle8 := bb8.le
                        have hle9 := bb9.le
                        have hle7 := bb7.le
                        have hlt8 := bk8.lt
                        have hlt9 := bk9.lt
                        omega
                      rw [hwx11]
                      exact (((((bk8_10).far (p := ⟨wx8.heap.size, 0, none⟩) hne _).far (p := ⟨wx8.heap.size, 1, none⟩) hne _).far (p := ⟨wx8.heap.size, 2, none⟩) hne _).far (p := ⟨wx8.heap.size, 3, none⟩) hne _)
                    have HB11 : Bl w8 wx11 := by rw [hwx11]; exact (((((HB10).setCell (by exact HB8.le) _).setCell (by exact HB8.le) _).setCell (by exact HB8.le) _).setCell (by exact HB8.le) _)
                    clear kst hwx11
                    refine ⟨HB11, ?_⟩
                    refine FlowS.done ?_
                    go_wp2_with fail
                    go_meet
                    case rel => exact ⟨_, _, rfl, rfl, bk8_11, bk9_11, HB11⟩
                  exact Tree.nil
                exact Tree.nil
              exact Tree.nil
            exact Tree.nil
          refine Tree.part rfl ?_ ?_
          · skip
            go_wp2_with fail
            obtain ⟨wx9, hwx9⟩ : ∃ x, x = (wx3).alloc (.cells #[.string ⟨#[]⟩, .string ⟨#[]⟩, .slice none 0 0, .int .i64 0] 73) := ⟨_, rfl⟩
            have bk9 : Blk wx9 (wx3).heap.size 73 #[.string ⟨#[]⟩, .string ⟨#[]⟩, .slice none 0 0, .int .i64 0] := by rw [hwx9]; exact Blk.new _ _ _
            have bb9 : Bl wx3 wx9 := by rw [hwx9]; exact (Bl.refl _).alloc _
            rw [← hwx9]
            clear hwx9
            have HB9 : Bl w8 wx9 := (HB3).trans bb9
            refine ⟨HB9, ?_⟩
            refine Tree.fork ?_
            refine Tree.part rfl ?_ ?_
            · skip
              go_wp2_with fail
              refine (Hg2.out _ (Hb8.out.trans HB9)).mono ?_
              rintro e wx7 ⟨rfl, bb7⟩
              have HB7 : Bl w8 wx7 := (HB9).trans bb7
              have bk9_7 := (bk9).bl bb7
              go_wp2_with fail
              refine ⟨HB7, ?_⟩
              refine Tree.fork ?_
              refine Tree.part rfl ?_ ?_
              · skip
                go_wp2_with fail
                obtain ⟨wx8, hwx8⟩ : ∃ x, x = (wx7).alloc (.cells #[.string ⟨#[]⟩, .string ⟨#[]⟩, .slice none 0 0, .int .i64 0] 73) := ⟨_, rfl⟩
                have bk8 : Blk wx8 (wx7).heap.size 73 #[.string ⟨#[]⟩, .string ⟨#[]⟩, .slice none 0 0, .int .i64 0] := by rw [hwx8]; exact Blk.new _ _ _
                have bb8 : Bl wx7 wx8 := by rw [hwx8]; exact (Bl.refl _).alloc _
                rw [← hwx8]
                clear hwx8
                have HB8 : Bl w8 wx8 := (HB7).trans bb8
                have bk9_8 := (bk9_7).bl bb8
                refine ⟨HB8, ?_⟩
                refine Tree.fork ?_
                refine Tree.part rfl ?_ ?_
                · skip
                  have kst := (bk8).all4
                  go_wp2_with fail
                  obtain ⟨wx10, hwx10⟩ : ∃ x, x = ((((wx8.setCell ⟨wx7.heap.size, 0, none⟩ (.string ⟨vf.toArray⟩)).setCell ⟨wx7.heap.size, 1, none⟩ (.string ⟨vt.toArray⟩)).setCell ⟨wx7.heap.size, 2, none⟩ (.slice vM vm.length vc)).setCell ⟨wx7.heap.size, 3, none⟩ (.int .i64 vS)) := ⟨_, rfl⟩
                  rw [← hwx10]
                  have bk8_10 : Blk wx10 wx7.heap.size 73 #[.string ⟨vf.toArray⟩, .string ⟨vt.toArray⟩, .slice vM vm.length vc, .int .i64 vS] := by rw [hwx10]; exact (((((bk8).set_ 0 _).set_ 1 _).set_ 2 _).set_ 3 _)
                  have bk9_10 : Blk wx10 wx3.heap.size 73 #[.string ⟨#[]⟩, .string ⟨#[]⟩, .slice none 0 0, .int .i64 0] := by
                    have hne : wx3.heap.size ≠ wx7.heap.size := by
                      have hle3 := bb3.le
                      have hle9 := bb9.le
                      have hle7 := bb7.le
                      have hle8 := bb8.le
                      have hlt8 := bk8.lt
                      have hlt9 := bk9.lt
                      omega
                    rw [hwx10]
                    exact (((((bk9_8).far (p := ⟨wx7.heap.size, 0, none⟩) hne _).far (p := ⟨wx7.heap.size, 1, none⟩) hne _).far (p := ⟨wx7.heap.size, 2, none⟩) hne _).far (p := ⟨wx7.heap.size, 3, none⟩) hne _)
                  have HB10 : Bl w8 wx10 := by rw [hwx10]; exact (((((HB8).setCell (by exact HB7.le) _).setCell (by exact HB7.le) _).setCell (by exact HB7.le) _).setCell (by exact HB7.le) _)
                  clear kst hwx10
                  refine ⟨HB10, ?_⟩
                  refine Tree.fork ?_
                  refine Tree.last rfl ?_ ?_
                  · skip
                    have kst := (bk9_10).all4
                    go_wp2_with fail
                    obtain ⟨wx11, hwx11⟩ : ∃ x, x = ((((wx10.setCell ⟨wx3.heap.size, 0, none⟩ (.string ⟨of.toArray⟩)).setCell ⟨wx3.heap.size, 1, none⟩ (.string ⟨ot.toArray⟩)).setCell ⟨wx3.heap.size, 2, none⟩ (.slice oM om.length oc)).setCell ⟨wx3.heap.size, 3, none⟩ (.int .i64 oS)) := ⟨_, rfl⟩
                    rw [← hwx11]
                    have bk9_11 : Blk wx11 wx3.heap.size 73 #[.string ⟨of.toArray⟩, .string ⟨ot.toArray⟩, .slice oM om.length oc, .int .i64 oS] := by rw [hwx11]; exact (((((bk9_10).set_ 0 _).set_ 1 _).set_ 2 _).set_ 3 _)
                    have bk8_11 : Blk wx11 wx7.heap.size 73 #[.string ⟨vf.toArray⟩, .string ⟨vt.toArray⟩, .slice vM vm.length vc, .int .i64 vS] := by
                      have hne : wx7.heap.size ≠ wx3.heap.size := by
                        have hle3 := bb3.le
                        have hle9 := bb9.le
                        have hle7 := bb7.le
                        have hle8 := bb8.le
                        have hlt8 := bk8.lt
                        have hlt9 := bk9.lt
                        omega
                      rw [hwx11]
                      exact (((((bk8_10).far (p := ⟨wx3.heap.size, 0, none⟩) hne _).far (p := ⟨wx3.heap.size, 1, none⟩) hne _).far (p := ⟨wx3.heap.size, 2, none⟩) hne _).far (p := ⟨wx3.heap.size, 3, none⟩) hne _)
                    have HB11 : Bl w8 wx11 := by rw [hwx11]; exact (((((HB10).setCell (by exact HB3.le) _).setCell (by exact HB3.le) _).setCell (by exact HB3.le) _).setCell (by exact HB3.le) _)
                    clear kst hwx11
                    refine ⟨HB11, ?_⟩
                    refine FlowS.done ?_
                    go_wp2_with fail
                    go_meet
                    case rel => exact ⟨_, _, rfl, rfl, bk8_11, bk9_11, HB11⟩
                  exact Tree.nil
                exact Tree.nil
              exact Tree.nil
            refine Tree.part rfl ?_ ?_
            · skip
              go_wp2_with fail
              obtain ⟨wx8, hwx8⟩ : ∃ x, x = (wx9).alloc (.cells #[.string ⟨#[]⟩, .string ⟨#[]⟩, .slice none 0 0, .int .i64 0] 73) := ⟨_, rfl⟩
              have bk8 : Blk wx8 (wx9).heap.size 73 #[.string ⟨#[]⟩, .string ⟨#[]⟩, .slice none 0 0, .int .i64 0] := by rw [hwx8]; exact Blk.new _ _ _
              have bb8 : Bl wx9 wx8 := by rw [hwx8]; exact (Bl.refl _).alloc _
              rw [← hwx8]
              clear hwx8
              have HB8 : Bl w8 wx8 := (HB9).trans bb8
              have bk9_8 := (bk9).bl bb8
              refine ⟨HB8, ?_⟩
              refine Tree.fork ?_
              refine Tree.part rfl ?_ ?_
              · skip
                go_wp2_with fail
                refine (Hg2.out _ (Hb8.out.trans HB8)).mono ?_
                rintro e wx7 ⟨rfl, bb7⟩
                have HB7 : Bl w8 wx7 := (HB8).trans bb7
                have bk9_7 := (bk9_8).bl bb7
                have bk8_7 := (bk8).bl bb7
                go_wp2_with fail
                refine ⟨HB7, ?_⟩
                refine Tree.fork ?_
                refine Tree.part rfl ?_ ?_
                · skip
                  have kst := (bk8_7).all4
                  go_wp2_with fail
                  obtain ⟨wx10, hwx10⟩ : ∃ x, x = ((((wx7.setCell ⟨wx9.heap.size, 0, none⟩ (.string ⟨vf.toArray⟩)).setCell ⟨wx9.heap.size, 1, none⟩ (.string ⟨vt.toArray⟩)).setCell ⟨wx9.heap.size, 2, none⟩ (.slice vM vm.length vc)).setCell ⟨wx9.heap.size, 3, none⟩ (.int .i64 vS)) := ⟨_, rfl⟩
                  rw [← hwx10]
                  have bk8_10 : Blk wx10 wx9.heap.size 73 #[.string ⟨vf.toArray⟩, .string ⟨vt.toArray⟩, .slice vM vm.length vc, .int .i64 vS] := by rw [hwx10]; exact (((((bk8_7).set_ 0 _).set_ 1 _).set_ 2 _).set_ 3 _)
                  have bk9_10 : Blk wx10 wx3.heap.size 73 #[.string ⟨#[]⟩, .string ⟨#[]⟩, .slice none 0 0, .int .i64 0] := by
                    have hne : wx3.heap.size ≠ wx9.heap.size := by
                      have hle3 := bb3.le
                      have hle9 := bb9.le
                      have hle8 := bb8.le
                      have hle7 := bb7.le
                      have hlt8 := bk8.lt
                      have hlt9 := bk9.lt
                      omega
                    rw [hwx10]
                    exact (((((bk9_7).far (p := ⟨wx9.heap.size, 0, none⟩) hne _).far (p := ⟨wx9.heap.size, 1, none⟩) hne _).far (p := ⟨wx9.heap.size, 2, none⟩) hne _).far (p := ⟨wx9.heap.size, 3, none⟩) hne _)
                  have HB10 : Bl w8 wx10 := by rw [hwx10]; exact (((((HB7).setCell (by exact HB9.le) _).setCell (by exact HB9.le) _).setCell (by exact HB9.le) _).setCell (by exact HB9.le) _)
                  clear kst hwx10
                  refine ⟨HB10, ?_⟩
                  refine Tree.fork ?_
                  refine Tree.last rfl ?_ ?_
                  · skip
                    have kst := (bk9_10).all4
                    go_wp2_with fail
                    obtain ⟨wx11, hwx11⟩ : ∃ x, x = ((((wx10.setCell ⟨wx3.heap.size, 0, none⟩ (.string ⟨of.toArray⟩)).setCell ⟨wx3.heap.size, 1, none⟩ (.string ⟨ot.toArray⟩)).setCell ⟨wx3.heap.size, 2, none⟩ (.slice oM om.length oc)).setCell ⟨wx3.heap.size, 3, none⟩ (.int .i64 oS)) := ⟨_, rfl⟩
                    rw [← hwx11]
                    have bk9_11 : Blk wx11 wx3.heap.size 73 #[.string ⟨of.toArray⟩, .string ⟨ot.toArray⟩, .slice oM om.length oc, .int .i64 oS] := by rw [hwx11]; exact (((((bk9_10).set_ 0 _).set_ 1 _).set_ 2 _).set_ 3 _)
                    have bk8_11 : Blk wx11 wx9.heap.size 73 #[.string ⟨vf.toArray⟩, .string ⟨vt.toArray⟩, .slice vM vm.length vc, .int .i64 vS] := by
                      have hne : wx9.heap.size ≠ wx3.heap.size := by
                        have hle3 := bb3.le
                        have hle9 := bb9.le
                        have hle8 := bb8.le
                        have hle7 := bb7.le
                        have hlt8 := bk8.lt
                        have hlt9 := bk9.lt
                        omega
                      rw [hwx11]
                      exact (((((bk8_10).far (p := ⟨wx3.heap.size, 0, none⟩) hne _).far (p := ⟨wx3.heap.size, 1, none⟩) hne _).far (p := ⟨wx3.heap.size, 2, none⟩) hne _).far (p := ⟨wx3.heap.size, 3, none⟩) hne _)
                    have HB11 : Bl w8 wx11 := by rw [hwx11]; exact (((((HB10).setCell (by exact HB3.le) _).setCell (by exact HB3.le) _).setCell (by exact HB3.le) _).setCell (by exact HB3.le) _)
                    clear kst hwx11
                    refine ⟨HB11, ?_⟩
                    refine FlowS.done ?_
                    go_wp2_with fail
                    go_meet
                    case rel => exact ⟨_, _, rfl, rfl, bk8_11, bk9_11, HB11⟩
                  exact Tree.nil
                exact Tree.nil
              exact Tree.nil
            exact Tree.nil
          exact Tree.nil
        refine Tree.part rfl ?_ ?_
        · skip
          go_wp2_with fail
          obtain ⟨wx8, hwx8⟩ : ∃ x, x = (wxd).alloc (.cells #[.string ⟨#[]⟩, .string ⟨#[]⟩, .slice none 0 0, .int .i64 0] 73) := ⟨_, rfl⟩
          have bk8 : Blk wx8 (wxd).heap.size 73 #[.string ⟨#[]⟩, .string ⟨#[]⟩, .slice none 0 0, .int .i64 0] := by rw [hwx8]; exact Blk.new _ _ _
          have bb8 : Bl wxd wx8 := by rw [hwx8]; exact (Bl.refl _).alloc _
          rw [← hwx8]
          clear hwx8
          have HB8 : Bl w8 wx8 := (HBD).trans bb8
          refine ⟨HB8, ?_⟩
          refine Tree.fork ?_
          refine Tree.part rfl ?_ ?_
          · skip
            go_wp2_with fail
            refine (Hg1.out _ (Hb8.out.trans HB8)).mono ?_
            rintro e wx3 ⟨rfl, bb3⟩
            have HB3 : Bl w8 wx3 := (HB8).trans bb3
            have bk8_3 := (bk8).bl bb3
            go_wp2_with fail
            refine ⟨HB3, ?_⟩
            refine Tree.fork ?_
            refine Tree.part rfl ?_ ?_
            · skip
              go_wp2_with fail
              refine (Hg2.out _ (Hb8.out.trans HB3)).mono ?_
              rintro e wx7 ⟨rfl, bb7⟩
              have HB7 : Bl w8 wx7 := (HB3).trans bb7
              have bk8_7 := (bk8_3).bl bb7
              go_wp2_with fail
              refine ⟨HB7, ?_⟩
              refine Tree.fork ?_
              refine Tree.part rfl ?_ ?_
              · skip
                go_wp2_with fail
                obtain ⟨wx9, hwx9⟩ : ∃ x, x = (wx7).alloc (.cells #[.string ⟨#[]⟩, .string ⟨#[]⟩, .slice none 0 0, .int .i64 0] 73) := ⟨_, rfl⟩
                have bk9 : Blk wx9 (wx7).heap.size 73 #[.string ⟨#[]⟩, .string ⟨#[]⟩, .slice none 0 0, .int .i64 0] := by rw [hwx9]; exact Blk.new _ _ _
                have bb9 : Bl wx7 wx9 := by rw [hwx9]; exact (Bl.refl _).alloc _
                rw [← hwx9]
                clear hwx9
                have HB9 : Bl w8 wx9 := (HB7).trans bb9
                have bk8_9 := (bk8_7).bl bb9
                refine ⟨HB9, ?_⟩
                refine Tree.fork ?_
                refine Tree.part rfl ?_ ?_
                · skip
                  have kst := (bk8_9).all4
                  go_wp2_with fail
                  obtain ⟨wx10, hwx10⟩ : ∃ x, x = ((((wx9.setCell ⟨wxd.heap.size, 0, none⟩ (.string ⟨vf.toArray⟩)).setCell ⟨wxd.heap.size, 1, none⟩ (.string ⟨vt.toArray⟩)).setCell ⟨wxd.heap.size, 2, none⟩ (.slice vM vm.length vc)).setCell ⟨wxd.heap.size, 3, none⟩ (.int .i64 vS)) := ⟨_, rfl⟩
                  rw [← hwx10]
                  have bk8_10 : Blk wx10 wxd.heap.size 73 #[.string ⟨vf.toArray⟩, .string ⟨vt.toArray⟩, .slice vM vm.length vc, .int .i64 vS] := by rw [hwx10]; exact (((((bk8_9).set_ 0 _).set_ 1 _).set_ 2 _).set_ 3 _)
                  have bk9_10 : Blk wx10 wx7.heap.size 73 #[.string ⟨#[]⟩, .string ⟨#[]⟩, .slice none 0 0, .int .i64 0] := by
                    have hne : wx7.heap.size ≠ wxd.heap.size := by
                      have hle8 := bb8.le
                      have hle3 := bb3.le
                      have hle7 := bb7.le
                      have hle9 := bb9.le
                      have hlt8 := bk8.lt
                      have hlt9 := bk9.lt
                      omega
                    rw [hwx10]
                    exact (((((bk9).far (p := ⟨wxd.heap.size, 0, none⟩) hne _).far (p := ⟨wxd.heap.size, 1, none⟩) hne _).far (p := ⟨wxd.heap.size, 2, none⟩) hne _).far (p := ⟨wxd.heap.size, 3, none⟩) hne _)
                  have HB10 : Bl w8 wx10 := by rw [hwx10]; exact (((((HB9).setCell (by exact HBD.le) _).setCell (by exact HBD.le) _).setCell (by exact HBD.le) _).setCell (by exact HBD.le) _)
                  clear kst hwx10
                  refine ⟨HB10, ?_⟩
                  refine Tree.fork ?_
                  refine Tree.last rfl ?_ ?_
                  · skip
                    have kst := (bk9_10).all4
                    go_wp2_with fail
                    obtain ⟨wx11, hwx11⟩ : ∃ x, x = ((((wx10.setCell ⟨wx7.heap.size, 0, none⟩ (.string ⟨of.toArray⟩)).setCell ⟨wx7.heap.size, 1, none⟩ (.string ⟨ot.toArray⟩)).setCell ⟨wx7.heap.size, 2, none⟩ (.slice oM om.length oc)).setCell ⟨wx7.heap.size, 3, none⟩ (.int .i64 oS)) := ⟨_, rfl⟩
                    rw [← hwx11]
                    have bk9_11 : Blk wx11 wx7.heap.size 73 #[.string ⟨of.toArray⟩, .string ⟨ot.toArray⟩, .slice oM om.length oc, .int .i64 oS] := by rw [hwx11]; exact (((((bk9_10).set_ 0 _).set_ 1 _).set_ 2 _).set_ 3 _)
                    have bk8_11 : Blk wx11 wxd.heap.size 73 #[.string ⟨vf.toArray⟩, .string ⟨vt.toArray⟩, .slice vM vm.length vc, .int .i64 vS] := by
                      have hne : wxd.heap.size ≠ wx7.heap.size := by
                        have hle8 := bb8.le
                        have hle3 := bb3.le
                        have hle7 := bb7.le
                        have hle9 := bb9.le
                        have hlt8 := bk8.lt
                        have hlt9 := bk9.lt
                        omega
                      rw [hwx11]
                      exact (((((bk8_10).far (p := ⟨wx7.heap.size, 0, none⟩) hne _).far (p := ⟨wx7.heap.size, 1, none⟩) hne _).far (p := ⟨wx7.heap.size, 2, none⟩) hne _).far (p := ⟨wx7.heap.size, 3, none⟩) hne _)
                    have HB11 : Bl w8 wx11 := by rw [hwx11]; exact (((((HB10).setCell (by exact HB7.le) _).setCell (by exact HB7.le) _).setCell (by exact HB7.le) _).setCell (by exact HB7.le) _)
                    clear kst hwx11
                    refine ⟨HB11, ?_⟩
                    refine FlowS.done ?_
                    go_wp2_with fail
                    go_meet
                    case rel => exact ⟨_, _, rfl, rfl, bk8_11, bk9_11, HB11⟩
                  exact Tree.nil
                exact Tree.nil
              exact Tree.nil
            refine Tree.part rfl ?_ ?_
            · skip
              go_wp2_with fail
              obtain ⟨wx9, hwx9⟩ : ∃ x, x = (wx3).alloc (.cells #[.string ⟨#[]⟩, .string ⟨#[]⟩, .slice none 0 0, .int .i64 0] 73) := ⟨_, rfl⟩
              have bk9 : Blk wx9 (wx3).heap.size 73 #[.string ⟨#[]⟩, .string ⟨#[]⟩, .slice none 0 0, .int .i64 0] := by rw [hwx9]; exact Blk.new _ _ _
              have bb9 : Bl wx3 wx9 := by rw [hwx9]; exact (Bl.refl _).alloc _
              rw [← hwx9]
              clear hwx9
              have HB9 : Bl w8 wx9 := (HB3).trans bb9
              have bk8_9 := (bk8_3).bl bb9
              refine ⟨HB9, ?_⟩
              refine Tree.fork ?_
              refine Tree.part rfl ?_ ?_
              · skip
                go_wp2_with fail
                refine (Hg2.out _ (Hb8.out.trans HB9)).mono ?_
                rintro e wx7 ⟨rfl, bb7⟩
                have HB7 : Bl w8 wx7 := (HB9).trans bb7
                have bk8_7 := (bk8_9).bl bb7
                have bk9_7 := (bk9).bl bb7
                go_wp2_with fail
                refine ⟨HB7, ?_⟩
                refine Tree.fork ?_
                refine Tree.part rfl ?_ ?_
                · skip
                  have kst := (bk8_7).all4
                  go_wp2_with fail
                  obtain ⟨wx10, hwx10⟩ : ∃ x, x = ((((wx7.setCell ⟨wxd.heap.size, 0, none⟩ (.string ⟨vf.toArray⟩)).setCell ⟨wxd.heap.size, 1, none⟩ (.string ⟨vt.toArray⟩)).setCell ⟨wxd.heap.size, 2, none⟩ (.slice vM vm.length vc)).setCell ⟨wxd.heap.size, 3, none⟩ (.int .i64 vS)) := ⟨_, rfl⟩
                  rw [← hwx10]
                  have bk8_10 : Blk wx10 wxd.heap.size 73 #[.string ⟨vf.toArray⟩, .string ⟨vt.toArray⟩, .slice vM vm.length vc, .int .i64 vS] := by rw [hwx10]; exact (((((bk8_7).set_ 0 _).set_ 1 _).set_ 2 _).set_ 3 _)
                  have bk9_10 : Blk wx10 wx3.heap.size 73 #[.string ⟨#[]⟩, .string ⟨#[]⟩, .slice none 0 0, .int .i64 0] := by
                    have hne : wx3.heap.size ≠ wxd.heap.size := by
                      have hle8 := bb8.le
                      have hle3 := bb3.le
                      have hle9 := bb9.le
                      have hle7 := bb7.le
                      have hlt8 := bk8.lt
                      have hlt9 := bk9.lt
                      omega
                    rw [hwx10]
                    exact (((((bk9_7).far (p := ⟨wxd.heap.size, 0, none⟩) hne _).far (p := ⟨wxd.heap.size, 1, none⟩) hne _).far (p := ⟨wxd.heap.size, 2, none⟩) hne _).far (p := ⟨wxd.heap.size, 3, none⟩) hne _)
                  have HB10 : Bl w8 wx10 := by rw [hwx10]; exact (((((HB7).setCell (by exact HBD.le) _).setCell (by exact HBD.le) _).setCell (by exact HBD.le) _).setCell (by exact HBD.le) _)
                  clear kst hwx10
                  refine ⟨HB10, ?_⟩
                  refine Tree.fork ?_
                  refine Tree.last rfl ?_ ?_
                  · skip
                    have kst := (bk9_10).all4
                    go_wp2_with fail
                    obtain ⟨wx11, hwx11⟩ : ∃ x, x = ((((wx10.setCell ⟨wx3.heap.size, 0, none⟩ (.string ⟨of.toArray⟩)).setCell ⟨wx3.heap.size, 1, none⟩ (.string ⟨ot.toArray⟩)).setCell ⟨wx3.heap.size, 2, none⟩ (.slice oM om.length oc)).setCell ⟨wx3.heap.size, 3, none⟩ (.int .i64 oS)) := ⟨_, rfl⟩
                    rw [← hwx11]
                    have bk9_11 : Blk wx11 wx3.heap.size 73 #[.string ⟨of.toArray⟩, .string ⟨ot.toArray⟩, .slice oM om.length oc, .int .i64 oS] := by rw [hwx11]; exact (((((bk9_10).set_ 0 _).set_ 1 _).set_ 2 _).set_ 3 _)
                    have bk8_11 : Blk wx11 wxd.heap.size 73 #[.string ⟨vf.toArray⟩, .string ⟨vt.toArray⟩, .slice vM vm.length vc, .int .i64 vS] := by
                      have hne : wxd.heap.size ≠ wx3.heap.size := by
                        have hle8 := bb8.le
                        have hle3 := bb3.le
                        have hle9 := bb9.le
                        have hle7 := bb7.le
                        have hlt8 := bk8.lt
                        have hlt9 := bk9.lt
                        omega
                      rw [hwx11]
                      exact (((((bk8_10).far (p := ⟨wx3.heap.size, 0, none⟩) hne _).far (p := ⟨wx3.heap.size, 1, none⟩) hne _).far (p := ⟨wx3.heap.size, 2, none⟩) hne _).far (p := ⟨wx3.heap.size, 3, none⟩) hne _)
                    have HB11 : Bl w8 wx11 := by rw [hwx11]; exact (((((HB10).setCell (by exact HB3.le) _).setCell (by exact HB3.le) _).setCell (by exact HB3.le) _).setCell (by exact HB3.le) _)
                    clear kst hwx11
                    refine ⟨HB11, ?_⟩
                    refine FlowS.done ?_
                    go_wp2_with fail
                    go_meet
                    case rel => exact ⟨_, _, rfl, rfl, bk8_11, bk9_11, HB11⟩
                  exact Tree.nil
                exact Tree.nil
              exact Tree.nil
            exact Tree.nil
          refine Tree.part rfl ?_ ?_
          · skip
            go_wp2_with fail
            obtain ⟨wx9, hwx9⟩ : ∃ x, x = (wx8).alloc (.cells #[.string ⟨#[]⟩, .string ⟨#[]⟩, .slice none 0 0, .int .i64 0] 73) := ⟨_, rfl⟩
            have bk9 : Blk wx9 (wx8).heap.size 73 #[.string ⟨#[]⟩, .string ⟨#[]⟩, .slice none 0 0, .int .i64 0] := by rw [hwx9]; exact Blk.new _ _ _
            have bb9 : Bl wx8 wx9 := by rw [hwx9]; exact (Bl.refl _).alloc _
            rw [← hwx9]
            clear hwx9
            have HB9 : Bl w8 wx9 := (HB8).trans bb9
            have bk8_9 := (bk8).bl bb9
            refine ⟨HB9, ?_⟩
            refine Tree.fork ?_
            refine Tree.part rfl ?_ ?_
            · skip
              go_wp2_with fail
              refine (Hg1.out _ (Hb8.out.trans HB9)).mono ?_
              rintro e wx3 ⟨rfl, bb3⟩
              have HB3 : Bl w8 wx3 := (HB9).trans bb3
              have bk8_3 := (bk8_9).bl bb3
              have bk9_3 := (bk9).bl bb3
              go_wp2_with fail
              refine ⟨HB3, ?_⟩
              refine Tree.fork ?_
              refine Tree.part rfl ?_ ?_
              · skip
                go_wp2_with fail
                refine (Hg2.out _ (Hb8.out.trans HB3)).mono ?_
                rintro e wx7 ⟨rfl, bb7⟩
                have HB7 : Bl w8 wx7 := (HB3).trans bb7
                have bk8_7 := (bk8_3).bl bb7
                have bk9_7 := (bk9_3).bl bb7
                go_wp2_with fail
                refine ⟨HB7, ?_⟩
                refine Tree.fork ?_
                refine Tree.part rfl ?_ ?_
                · skip
                  have kst := (bk8_7).all4
                  go_wp2_with fail
                  obtain ⟨wx10, hwx10⟩ : ∃ x, x = ((((wx7.setCell ⟨wxd.heap.size, 0, none⟩ (.string ⟨vf.toArray⟩)).setCell ⟨wxd.heap.size, 1, none⟩ (.string ⟨vt.toArray⟩)).setCell ⟨wxd.heap.size, 2, none⟩ (.slice vM vm.length vc)).setCell ⟨wxd.heap.size, 3, none⟩ (.int .i64 vS)) := ⟨_, rfl⟩
                  rw [← hwx10]
                  have bk8_10 : Blk wx10 wxd.heap.size 73 #[.string ⟨vf.toArray⟩, .string ⟨vt.toArray⟩, .slice vM vm.length vc, .int .i64 vS] := by rw [hwx10]; exact (((((bk8_7).set_ 0 _).set_ 1 _).set_ 2 _).set_ 3 _)
                  have bk9_10 : Blk wx10 wx8.heap.size 73 #[.string ⟨#[]⟩, .string ⟨#[]⟩, .slice none 0 0, .int .i64 0] := by
                    have hne : wx8.heap.size ≠ wxd.heap.size := by
                      have hle8 := bb8.le
                      have hle9 := bb9.le
                      have hle3 := bb3.le
                      have hle7 := bb7.le
                      have hlt8 := bk8.lt
                      have hlt9 := bk9.lt
                      omega
                    rw [hwx10]
                    exact (((((bk9_7).far (p := ⟨wxd.heap.size, 0, none⟩) hne _).far (p := ⟨wxd.heap.size, 1, none⟩) hne _).far (p := ⟨wxd.heap.size, 2, none⟩) hne _).far (p := ⟨wxd.heap.size, 3, none⟩) hne _)
                  have HB10 : Bl w8 wx10 := by rw [hwx10]; exact (((((HB7).setCell (by exact HBD.le) _).setCell (by exact HBD.le) _).setCell (by exact HBD.le) _).setCell (by exact HBD.le) _)
                  clear kst hwx10
                  refine ⟨HB10, ?_⟩
                  refine Tree.fork ?_
                  refine Tree.last rfl ?_ ?_
                  · skip
                    have kst := (bk9_10).all4
                    go_wp2_with fail
                    obtain ⟨wx11, hwx11⟩ : ∃ x, x = ((((wx10.setCell ⟨wx8.heap.size, 0, none⟩ (.string ⟨of.toArray⟩)).setCell ⟨wx8.heap.size, 1, none⟩ (.string ⟨ot.toArray⟩)).setCell ⟨wx8.heap.size, 2, none⟩ (.slice oM om.length oc)).setCell ⟨wx8.heap.size, 3, none⟩ (.int .i64 oS)) := ⟨_, rfl⟩
                    rw [← hwx11]
                    have bk9_11 : Blk wx11 wx8.heap.size 73 #[.string ⟨of.toArray⟩, .string ⟨ot.toArray⟩, .slice oM om.length oc, .int .i64 oS] := by rw [hwx11]; exact (((((bk9_10).set_ 0 _).set_ 1 _).set_ 2 _).set_ 3 _)
                    have bk8_11 : Blk wx11 wxd.heap.size 73 #[.string ⟨vf.toArray⟩, .string ⟨vt.toArray⟩, .slice vM vm.length vc, .int .i64 vS] := by
                      have hne : wxd.heap.size ≠ wx8.heap.size := by
                        have hle8 := bb8.le
                        have hle9 := bb9.le
                        have hle3 := bb3.le
                        have hle7 := bb7.le
                        have hlt8 := bk8.lt
                        have hlt9 := bk9.lt
                        omega
                      rw [hwx11]
                      exact (((((bk8_10).far (p := ⟨wx8.heap.size, 0, none⟩) hne _).far (p := ⟨wx8.heap.size, 1, none⟩) hne _).far (p := ⟨wx8.heap.size, 2, none⟩) hne _).far (p := ⟨wx8.heap.size, 3, none⟩) hne _)
                    have HB11 : Bl w8 wx11 := by rw [hwx11]; exact (((((HB10).setCell (by exact HB8.le) _).setCell (by exact HB8.le) _).setCell (by exact HB8.le) _).setCell (by exact HB8.le) _)
                    clear kst hwx11
                    refine ⟨HB11, ?_⟩
                    refine FlowS.done ?_
                    go_wp2_with fail
                    go_meet
                    case rel => exact ⟨_, _, rfl, rfl, bk8_11, bk9_11, HB11⟩
                  exact Tree.nil
                exact Tree.nil
              exact Tree.nil
            exact Tree.nil
          exact Tree.nil
        refine Tree.part rfl ?_ ?_
        · skip
          go_wp2_with fail
          obtain ⟨wx9, hwx9⟩ : ∃ x, x = (wxd).alloc (.cells #[.string ⟨#[]⟩, .string ⟨#[]⟩, .slice none 0 0, .int .i64 0] 73) := ⟨_, rfl⟩
          have bk9 : Blk wx9 (wxd).heap.size 73 #[.string ⟨#[]⟩, .string ⟨#[]⟩, .slice none 0 0, .int .i64 0] := by rw [hwx9]; exact Blk.new _ _ _
          have bb9 : Bl wxd wx9 := by rw [hwx9]; exact (Bl.refl _).alloc _
          rw [← hwx9]
          clear hwx9
          have HB9 : Bl w8 wx9 := (HBD).trans bb9
          refine ⟨HB9, ?_⟩
          refine Tree.fork ?_
          refine Tree.part rfl ?_ ?_
          · skip
            go_wp2_with fail
            refine (Hg1.out _ (Hb8.out.trans HB9)).mono ?_
            rintro e wx3 ⟨rfl, bb3⟩
            have HB3 : Bl w8 wx3 := (HB9).trans bb3
            have bk9_3 := (bk9).bl bb3
            go_wp2_with fail
            refine ⟨HB3, ?_⟩
            refine Tree.fork ?_
            refine Tree.part rfl ?_ ?_
            · skip
              go_wp2_with fail
              refine (Hg2.out _ (Hb8.out.trans HB3)).mono ?_
              rintro e wx7 ⟨rfl, bb7⟩
              have HB7 : Bl w8 wx7 := (HB3).trans bb7
              have bk9_7 := (bk9_3).bl bb7
              go_wp2_with fail
              refine ⟨HB7, ?_⟩
              refine Tree.fork ?_
              refine Tree.part rfl ?_ ?_
              · skip
                go_wp2_with fail
                obtain ⟨wx8, hwx8⟩ : ∃ x, x = (wx7).alloc (.cells #[.string ⟨#[]⟩, .string ⟨#[]⟩, .slice none 0 0, .int .i64 0] 73) := ⟨_, rfl⟩
                have bk8 : Blk wx8 (wx7).heap.size 73 #[.string ⟨#[]⟩, .string ⟨#[]⟩, .slice none 0 0, .int .i64 0] := by rw [hwx8]; exact Blk.new _ _ _
                have bb8 : Bl wx7 wx8 := by rw [hwx8]; exact (Bl.refl _).alloc _
                rw [← hwx8]
                clear hwx8
                have HB8 : Bl w8 wx8 := (HB7).trans bb8
                have bk9_8 := (bk9_7).bl bb8
                refine ⟨HB8, ?_⟩
                refine Tree.fork ?_
                refine Tree.part rfl ?_ ?_
                · skip
                  have kst := (bk8).all4
                  go_wp2_with fail
                  obtain ⟨wx10, hwx10⟩ : ∃ x, x = ((((wx8.setCell ⟨wx7.heap.size, 0, none⟩ (.string ⟨vf.toArray⟩)).setCell ⟨wx7.heap.size, 1, none⟩ (.string ⟨vt.toArray⟩)).setCell ⟨wx7.heap.size, 2, none⟩ (.slice vM vm.length vc)).setCell ⟨wx7.heap.size, 3, none⟩ (.int .i64 vS)) := ⟨_, rfl⟩
                  rw [← hwx10]
                  have bk8_10 : Blk wx10 wx7.heap.size 73 #[.string ⟨vf.toArray⟩, .string ⟨vt.toArray⟩, .slice vM vm.length vc, .int .i64 vS] := by rw [hwx10]; exact (((((bk8).set_ 0 _).set_ 1 _).set_ 2 _).set_ 3 _)
                  have bk9_10 : Blk wx10 wxd.heap.size 73 #[.string ⟨#[]⟩, .string ⟨#[]⟩, .slice none 0 0, .int .i64 0] := by
                    have hne : wxd.heap.size ≠ wx7.heap.size := by
                      have hle9 := bb9.le
                      have hle3 := bb3.le
                      have hle7 := bb7.le
                      have hle8 := bb8.le
                      have hlt8 := bk8.lt
                      have hlt9 := bk9.lt
                      omega
                    rw [hwx10]
                    exact (((((bk9_8).far (p := ⟨wx7.heap.size, 0, none⟩) hne _).far (p := ⟨wx7.heap.size, 1, none⟩) hne _).far (p := ⟨wx7.heap.size, 2, none⟩) hne _).far (p := ⟨wx7.heap.size, 3, none⟩) hne _)
                  have HB10 : Bl w8 wx10 := by rw [hwx10]; exact (((((HB8).setCell (by exact HB7.le) _).setCell (by exact HB7.le) _).setCell (by exact HB7.le) _).setCell (by exact HB7.le) _)
                  clear kst hwx10
                  refine ⟨HB10, ?_⟩
                  refine Tree.fork ?_
                  refine Tree.last rfl ?_ ?_
                  · skip
                    have kst := (bk9_10).all4
                    go_wp2_with fail
                    obtain ⟨wx11, hwx11⟩ : ∃ x, x = ((((wx10.setCell ⟨wxd.heap.size, 0, none⟩ (.string ⟨of.toArray⟩)).setCell ⟨wxd.heap.size, 1, none⟩ (.string ⟨ot.toArray⟩)).setCell ⟨wxd.heap.size, 2, none⟩ (.slice oM om.length oc)).setCell ⟨wxd.heap.size, 3, none⟩ (.int .i64 oS)) := ⟨_, rfl⟩
                    rw [← hwx11]
                    have bk9_11 : Blk wx11 wxd.heap.size 73 #[.string ⟨of.toArray⟩, .string ⟨ot.toArray⟩, .slice oM om.length oc, .int .i64 oS] := by rw [hwx11]; exact (((((bk9_10).set_ 0 _).set_ 1 _).set_ 2 _).set_ 3 _)
                    have bk8_11 : Blk wx11 wx7.heap.size 73 #[.string ⟨vf.toArray⟩, .string ⟨vt.toArray⟩, .slice vM vm.length vc, .int .i64 vS] := by
                      have hne : wx7.heap.size ≠ wxd.heap.size := by
                        have hle9 := bb9.le
                        have hle3 := bb3.le
                        have hle7 := bb7.le
                        have hle8 := bb8.le
                        have hlt8 := bk8.lt
                        have hlt9 := bk9.lt
                        omega
                      rw [hwx11]
                      exact (((((bk8_10).far (p := ⟨wxd.heap.size, 0, none⟩) hne _).far (p := ⟨wxd.heap.size, 1, none⟩) hne _).far (p := ⟨wxd.heap.size, 2, none⟩) hne _).far (p := ⟨wxd.heap.size, 3, none⟩) hne _)
                    have HB11 : Bl w8 wx11 := by rw [hwx11]; exact (((((HB10).setCell (by exact HBD.le) _).setCell (by exact HBD.le) _).setCell (by exact HBD.le) _).setCell (by exact HBD.le) _)
                    clear kst hwx11
                    refine ⟨HB11, ?_⟩
                    refine FlowS.done ?_
                    go_wp2_with fail
                    go_meet
                    case rel => exact ⟨_, _, rfl, rfl, bk8_11, bk9_11, HB11⟩
                  exact Tree.nil
                exact Tree.nil
              exact Tree.nil
            refine Tree.part rfl ?_ ?_
            · skip
              go_wp2_with fail
              obtain ⟨wx8, hwx8⟩ : ∃ x, x = (wx3).alloc (.cells #[.string ⟨#[]⟩, .string ⟨#[]⟩, .slice none 0 0, .int .i64 0] 73) := ⟨_, rfl⟩
              have bk8 : Blk wx8 (wx3).heap.size 73 #[.string ⟨#[]⟩, .string ⟨#[]⟩, .slice none 0 0, .int .i64 0] := by rw [hwx8]; exact Blk.new _ _ _
              have bb8 : Bl wx3 wx8 := by rw [hwx8]; exact (Bl.refl _).alloc _
              rw [← hwx8]
              clear hwx8
              have HB8 : Bl w8 wx8 := (HB3).trans bb8
              have bk9_8 := (bk9_3).bl bb8
              refine ⟨HB8, ?_⟩
              refine Tree.fork ?_
              refine Tree.part rfl ?_ ?_
              · skip
                go_wp2_with fail
                refine (Hg2.out _ (Hb8.out.trans HB8)).mono ?_
                rintro e wx7 ⟨rfl, bb7⟩
                have HB7 : Bl w8 wx7 := (HB8).trans bb7
                have bk9_7 := (bk9_8).bl bb7
                have bk8_7 := (bk8).bl bb7
                go_wp2_with fail
                refine ⟨HB7, ?_⟩
                refine Tree.fork ?_
                refine Tree.part rfl ?_ ?_
                · skip
                  have kst := (bk8_7).all4
                  go_wp2_with fail
                  obtain ⟨wx10, hwx10⟩ : ∃ x, x = ((((wx7.setCell ⟨wx3.heap.size, 0, none⟩ (.string ⟨vf.toArray⟩)).setCell ⟨wx3.heap.size, 1, none⟩ (.string ⟨vt.toArray⟩)).setCell ⟨wx3.heap.size, 2, none⟩ (.slice vM vm.length vc)).setCell ⟨wx3.heap.size, 3, none⟩ (.int .i64 vS)) := ⟨_, rfl⟩
                  rw [← hwx10]
                  have bk8_10 : Blk wx10 wx3.heap.size 73 #[.string ⟨vf.toArray⟩, .string ⟨vt.toArray⟩, .slice vM vm.length vc, .int .i64 vS] := by rw [hwx10]; exact (((((bk8_7).set_ 0 _).set_ 1 _).set_ 2 _).set_ 3 _)
                  have bk9_10 : Blk wx10 wxd.heap.size 73 #[.string ⟨#[]⟩, .string ⟨#[]⟩, .slice none 0 0, .int .i64 0] := by
                    have hne : wxd.heap.size ≠ wx3.heap.size := by
                      have hle9 := bb9.le
                      have hle3 := bb3.le
                      have hle8 := bb8.le
                      have hle7 := bb7.le
                      have hlt8 := bk8.lt
                      have hlt9 := bk9.lt
                      omega
                    rw [hwx10]
                    exact (((((bk9_7).far (p := ⟨wx3.heap.size, 0, none⟩) hne _).far (p := ⟨wx3.heap.size, 1, none⟩) hne _).far (p := ⟨wx3.heap.size, 2, none⟩) hne _).far (p := ⟨wx3.heap.size, 3, none⟩) hne _)
                  have HB10 : Bl w8 wx10 := by rw [hwx10]; exact (((((HB7).setCell (by exact HB3.le) _).setCell (by exact HB3.le) _).setCell (by exact HB3.le) _).setCell (by exact HB3.le) _)
                  clear kst hwx10
                  refine ⟨HB10, ?_⟩
                  refine Tree.fork ?_
                  refine Tree.last rfl ?_ ?_
                  · skip
                    have kst := (bk9_10).all4
                    go_wp2_with fail
                    obtain ⟨wx11, hwx11⟩ : ∃ x, x = ((((wx10.setCell ⟨wxd.heap.size, 0, none⟩ (.string ⟨of.toArray⟩)).setCell ⟨wxd.heap.size, 1, none⟩ (.string ⟨ot.toArray⟩)).setCell ⟨wxd.heap.size, 2, none⟩ (.slice oM om.length oc)).setCell ⟨wxd.heap.size, 3, none⟩ (.int .i64 oS)) := ⟨_, rfl⟩
                    rw [← hwx11]
                    have bk9_11 : Blk wx11 wxd.heap.size 73 #[.string ⟨of.toArray⟩, .string ⟨ot.toArray⟩, .slice oM om.length oc, .int .i64 oS] := by rw [hwx11]; exact (((((bk9_10).set_ 0 _).set_ 1 _).set_ 2 _).set_ 3 _)
                    have bk8_11 : Blk wx11 wx3.heap.size 73 #[.string ⟨vf.toArray⟩, .string ⟨vt.toArray⟩, .slice vM vm.length vc, .int .i64 vS] := by
                      have hne : wx3.heap.size ≠ wxd.heap.size := by
                        have hle9 := bb9.le
                        have hle3 := bb3.le
                        have hle8 := bb8.le
                        have hle7 := bb7.le
                        have hlt8 := bk8.lt
                        have hlt9 := bk9.lt
                        omega
                      rw [hwx11]
                      exact (((((bk8_10).far (p := ⟨wxd.heap.size, 0, none⟩) hne _).far (p := ⟨wxd.heap.size, 1, none⟩) hne _).far (p := ⟨wxd.heap.size, 2, none⟩) hne _).far (p := ⟨wxd.heap.size, 3, none⟩) hne _)
                    have HB11 : Bl w8 wx11 := by rw [hwx11]; exact (((((HB10).setCell (by exact HBD.le) _).setCell (by exact HBD.le) _).setCell (by exact HBD.le) _).setCell (by exact HBD.le) _)
                    clear kst hwx11
                    refine ⟨HB11, ?_⟩
                    refine FlowS.done ?_
                    go_wp2_with fail
                    go_meet
                    case rel => exact ⟨_, _, rfl, rfl, bk8_11, bk9_11, HB11⟩
                  exact Tree.nil
                exact Tree.nil
              exact Tree.nil
            exact Tree.nil
          refine Tree.part rfl ?_ ?_
          · skip
            go_wp2_with fail
            obtain ⟨wx8, hwx8⟩ : ∃ x, x = (wx9).alloc (.cells #[.string ⟨#[]⟩, .string ⟨#[]⟩, .slice none 0 0, .int .i64 0] 73) := ⟨_, rfl⟩
            have bk8 : Blk wx8 (wx9).heap.size 73 #[.string ⟨#[]⟩, .string ⟨#[]⟩, .slice none 0 0, .int .i64 0] := by rw [hwx8]; exact Blk.new _ _ _
            have bb8 : Bl wx9 wx8 := by rw [hwx8]; exact (Bl.refl _).alloc _
            rw [← hwx8]
            clear hwx8
            have HB8 : Bl w8 wx8 := (HB9).trans bb8
            have bk9_8 := (bk9).bl bb8
            refine ⟨HB8, ?_⟩
            refine Tree.fork ?_
            refine Tree.part rfl ?_ ?_
            · skip
              go_wp2_with fail
              refine (Hg1.out _ (Hb8.out.trans HB8)).mono ?_
              rintro e wx3 ⟨rfl, bb3⟩
              have HB3 : Bl w8 wx3 := (HB8).trans bb3
              have bk9_3 := (bk9_8).bl bb3
              have bk8_3 := (bk8).bl bb3
              go_wp2_with fail
              refine ⟨HB3, ?_⟩
              refine Tree.fork ?_
              refine Tree.part rfl ?_ ?_
              · skip
                go_wp2_with fail
                refine (Hg2.out _ (Hb8.out.trans HB3)).mono ?_
                rintro e wx7 ⟨rfl, bb7⟩
                have HB7 : Bl w8 wx7 := (HB3).trans bb7
                have bk9_7 := (bk9_3).bl bb7
                have bk8_7 := (bk8_3).bl bb7
                go_wp2_with fail
                refine ⟨HB7, ?_⟩
                refine Tree.fork ?_
                refine Tree.part rfl ?_ ?_
                · skip
                  have kst := (bk8_7).all4
                  go_wp2_with fail
                  obtain ⟨wx10, hwx10⟩ : ∃ x, x = ((((wx7.setCell ⟨wx9.heap.size, 0, none⟩ (.string ⟨vf.toArray⟩)).setCell ⟨wx9.heap.size, 1, none⟩ (.string ⟨vt.toArray⟩)).setCell ⟨wx9.heap.size, 2, none⟩ (.slice vM vm.length vc)).setCell ⟨wx9.heap.size, 3, none⟩ (.int .i64 vS)) := ⟨_, rfl⟩
                  rw [← hwx10]
                  have bk8_10 : Blk wx10 wx9.heap.size 73 #[.string ⟨vf.toArray⟩, .string ⟨vt.toArray⟩, .slice vM vm.length vc, .int .i64 vS] := by rw [hwx10]; exact (((((bk8_7).set_ 0 _).set_ 1 _).set_ 2 _).set_ 3 _)
                  have bk9_10 : Blk wx10 wxd.heap.size 73 #[.string ⟨#[]⟩, .string ⟨#[]⟩, .slice none 0 0, .int .i64 0] := by
                    have hne : wxd.heap.size ≠ wx9.heap.size := by
                      have hle9 := bb9.le
                      have hle8 := bb8.le
                      have hle3 := bb3.le
                      have hle7 := bb7.le
                      have hlt8 := bk8.lt
                      have hlt9 := bk9.lt
                      omega
                    rw [hwx10]
                    exact (((((bk9_7).far (p := ⟨wx9.heap.size, 0, none⟩) hne _).far (p := ⟨wx9.heap.size, 1, none⟩) hne _).far (p := ⟨wx9.heap.size, 2, none⟩) hne _).far (p := ⟨wx9.heap.size, 3, none⟩) hne _)
                  have HB10 : Bl w8 wx10 := by rw [hwx10]; exact (((((HB7).setCell (by exact HB9.le) _).setCell (by exact HB9.le) _).setCell (by exact HB9.le) _).setCell (by exact HB9.le) _)
                  clear kst hwx10
                  refine ⟨HB10, ?_⟩
                  refine Tree.fork ?_
                  refine Tree.last rfl ?_ ?_
                  · skip
                    have kst := (bk9_10).all4
                    go_wp2_with fail
                    obtain ⟨wx11, hwx11⟩ : ∃ x, x = ((((wx10.setCell ⟨wxd.heap.size, 0, none⟩ (.string ⟨of.toArray⟩)).setCell ⟨wxd.heap.size, 1, none⟩ (.string ⟨ot.toArray⟩)).setCell ⟨wxd.heap.size, 2, none⟩ (.slice oM om.length oc)).setCell ⟨wxd.heap.size, 3, none⟩ (.int .i64 oS)) := ⟨_, rfl⟩
                    rw [← hwx11]
                    have bk9_11 : Blk wx11 wxd.heap.size 73 #[.string ⟨of.toArray⟩, .string ⟨ot.toArray⟩, .slice oM om.length oc, .int .i64 oS] := by rw [hwx11]; exact (((((bk9_10).set_ 0 _).set_ 1 _).set_ 2 _).set_ 3 _)
                    have bk8_11 : Blk wx11 wx9.heap.size 73 #[.string ⟨vf.toArray⟩, .string ⟨vt.toArray⟩, .slice vM vm.length vc, .int .i64 vS] := by
                      have hne : wx9.heap.size ≠ wxd.heap.size := by
                        have hle9 := bb9.le
                        have hle8 := bb8.le
                        have hle3 := bb3.le
                        have hle7 := bb7.le
                        have hlt8 := bk8.lt
                        have hlt9 := bk9.lt
                        omega
                      rw [hwx11]
                      exact (((((bk8_10).far (p := ⟨wxd.heap.size, 0, none⟩) hne _).far (p := ⟨wxd.heap.size, 1, none⟩) hne _).far (p := ⟨wxd.heap.size, 2, none⟩) hne _).far (p := ⟨wxd.heap.size, 3, none⟩) hne _)
                    have HB11 : Bl w8 wx11 := by rw [hwx11]; exact (((((HB10).setCell (by exact HBD.le) _).setCell (by exact HBD.le) _).setCell (by exact HBD.le) _).setCell (by exact HBD.le) _)
                    clear kst hwx11
                    refine ⟨HB11, ?_⟩
                    refine FlowS.done ?_
                    go_wp2_with fail
                    go_meet
                    case rel => exact ⟨_, _, rfl, rfl, bk8_11, bk9_11, HB11⟩
                  exact Tree.nil
                exact Tree.nil
              exact Tree.nil
            exact Tree.nil
          exact Tree.nil
        exact Tree.nil
      case rest =>
      rename World => w9
      obtain ⟨p, q, rfl, rfl, bp, bq, hb9⟩ := hcut
      have k1 := (w11.bl (Hb8.out.trans hb9)).all8
      have k2 := (B8.out.bl hb9).all4
      have k3 := bp.all4
      have k4 := bq.all4
      have B8 := Lib.hid (B8.out.bl hb9); have BP := Lib.hid bp; have BQ := Lib.hid bq; have Hb9 := Lib.hid (Hb8.out.trans hb9); have Hby9 := Lib.hid (Hby8.out.trans hb9)
      have hk : k = 1 ∨ k = 2 ∨ k = 3 ∨ k = 4 ∨ k = 5 ∨ k = 6 := by have := inB_true.1 Hok3.out.1; omega
      clear hb9 bp bq
      go_upto_region 9 with fail
      go_cut [37] from 36 to 38 (fun s wc => s = .int .i64 k ∧ w9 = wc)
      case first =>
        go_wp2_with fail
        go_meet
        case rel => exact ⟨rfl, rfl⟩
      case rest =>
      rename World => wz
      obtain ⟨rfl, rfl⟩ := hcut
      go_step
      obtain ⟨hb, hhb⟩ : ∃ b, holdsB ⟨k, rf, ro, rt⟩ ⟨vf, vt, vM, vc, vm, vS⟩ ⟨of, ot, oM, oc, om, oS⟩ = b := ⟨_, rfl⟩
      rw [hhb] at HRK HRM
      have HHB := Lib.hid hhb
      clear hhb
      go_cut [12] from 38 to 137 (fun s wc => s = .bool hb ∧ Bl w9 wc)
      case first =>
        obtain ⟨te, hte⟩ : ∃ b, vt.isEmpty = b := ⟨_, rfl⟩
        obtain ⟨oe, hoe⟩ : ∃ b, ot.isEmpty = b := ⟨_, rfl⟩
        have Hte := Lib.hid hte; have Hoe := Lib.hid hoe
        rcases hk with rfl | rfl | rfl | rfl | rfl | rfl
        · have HX := Lib.hid (show hb = !emptyB ⟨vf, vt, vM, vc, vm, vS⟩ by rw [← HHB.out]; rfl)
          have he := fun wx => empty_any ⟨vf, vt, vM, vc, vm, vS⟩ wx
          unfold Vlu.val at he
          obtain ⟨eb, heb⟩ : ∃ b, b = emptyB ⟨vf, vt, vM, vc, vm, vS⟩ := ⟨_, rfl⟩
          rw [← heb] at he HX
          have He := Lib.hid he
          clear he heb
          go_wp2_with (go_at_call 45; refine (He.out _).mono ?_; rintro e wa ⟨rfl, hba⟩)
          go_meet
          case rel => exact ⟨by rw [HX.out], hba⟩
        · have HX := Lib.hid (show hb = madeOf vt digits10 by rw [← HHB.out]; rfl)
          have hcall := Lib.hid (fun wx => digsR_any vt wx (by omega))
          go_wp2_with (go_at_call 46; refine (hcall.out _).mono ?_; rintro e wa ⟨rfl, hba⟩)
          go_meet
          case rel => exact ⟨by rw [HX.out], hba⟩
        · cases te with
          | true =>
            have HX := Lib.hid (show hb = true by rw [← HHB.out]; show (vt.isEmpty || _) = true; rw [Hte.out]; rfl)
            go_upto_region 15 with fail
            refine wp_region_flow [(true, 0), (true, 1), (true, 2), (true, 3), (true, 4), (true, 5), (true, 7), (true, 8), (false, 6), (false, 9), (true, 10), (true, 11)] (fun _ => false) (by kernel_rfl) (by kernel_rfl) (by kernel_rfl) (by kernel_rfl) ?_
            iterate 1
              apply Flow.calm2 _ _ rfl rfl
              · intro w' hb' K' hK'
                obtain ⟨hc', hf'⟩ := hb'.rule
                go_simp
                try go_ints
                exact hK'
              · intro K' hK'
                simp only [Act.put, List.setIfInBounds_toArray, List.set_cons_zero, List.set_cons_succ]
                exact hK'
            iterate 1
              apply Flow.calm2 _ _ rfl rfl
              · intro w' hb' K' hK'
                obtain ⟨hc', hf'⟩ := hb'.rule
                go_simp
                try go_ints
                exact hK'
              · intro K' hK'
                simp only [Act.put, List.setIfInBounds_toArray, List.set_cons_zero, List.set_cons_succ]
                exact hK'
            iterate 1
              apply Flow.calm2 _ _ rfl rfl
              · intro w' hb' K' hK'
                obtain ⟨hc', hf'⟩ := hb'.rule
                go_simp
                try go_ints
                exact hK'
              · intro K' hK'
                simp only [Act.put, List.setIfInBounds_toArray, List.set_cons_zero, List.set_cons_succ]
                exact hK'
            iterate 1
              apply Flow.mv _ rfl
              · intro K' hK'
                simp only [Act.put, Act.eval, List.setIfInBounds_toArray, List.set_cons_zero, List.set_cons_succ, arr_getD, List.getD_cons_zero, List.getD_cons_succ]
                exact hK'
            first
              | (apply Flow.pass rfl (by rfl))
              | (apply Flow.calmG _ rfl (by rfl)
                 · intro w' hb'
                   obtain ⟨hc', hf'⟩ := hb'.rule
                   go_simp
                   all_goals (try rfl))
            simp only [Act.put, List.setIfInBounds_toArray, List.set_cons_zero, List.set_cons_succ]
            try go_ints
            first
              | (apply Flow.pass rfl (by rfl))
              | (apply Flow.calmG _ rfl (by rfl)
                 · intro w' hb'
                   obtain ⟨hc', hf'⟩ := hb'.rule
                   go_simp
                   all_goals (try rfl))
            simp only [Act.put, List.setIfInBounds_toArray, List.set_cons_zero, List.set_cons_succ]
            try go_ints
            first
              | (apply Flow.pass rfl (by rfl))
              | (apply Flow.calmG _ rfl (by rfl)
                 · intro w' hb'
                   obtain ⟨hc', hf'⟩ := hb'.rule
                   go_simp
                   all_goals (try rfl))
            simp only [Act.put, List.setIfInBounds_toArray, List.set_cons_zero, List.set_cons_succ]
            try go_ints
            first
              | (apply Flow.pass rfl (by rfl))
              | (apply Flow.calmG _ rfl (by rfl)
                 · intro w' hb'
                   obtain ⟨hc', hf'⟩ := hb'.rule
                   go_simp
                   all_goals (try rfl))
            simp only [Act.put, List.setIfInBounds_toArray, List.set_cons_zero, List.set_cons_succ]
            try go_ints
            -- a guarded mover
            apply Flow.move rfl
            go_wp2_with fail
            first | refine ⟨fun _ => Bl.refl _, ?_⟩ | refine ⟨Bl.refl _, ?_⟩
            -- a guarded mover
            apply Flow.move rfl
            go_wp2_with fail
            first | refine ⟨fun _ => Bl.refl _, ?_⟩ | refine ⟨Bl.refl _, ?_⟩
            iterate 1
              apply Flow.calm2 _ _ rfl rfl
              · intro w' hb' K' hK'
                obtain ⟨hc', hf'⟩ := hb'.rule
                go_simp
                try go_ints
                exact hK'
              · intro K' hK'
                simp only [Act.put, List.setIfInBounds_toArray, List.set_cons_zero, List.set_cons_succ]
                exact hK'
            iterate 1
              apply Flow.asg _ rfl
              · intro K' hK'
                simp only [Act.put, Act.eval, List.setIfInBounds_toArray, List.set_cons_zero, List.set_cons_succ, arr_getD, List.getD_cons_zero, List.getD_cons_succ]
                exact hK'
            refine Flow.done ?_
            go_wp2_with fail
            go_meet
            case rel => exact ⟨by rw [HX.out], (Bl.refl _).drew⟩
          | false =>
            have HX := Lib.hid (show hb = decide (vt ∈ wordsOf rt) by rw [← HHB.out]; show (vt.isEmpty || _) = _; rw [Hte.out, Bool.false_or])
            go_upto_region 15 with fail
            refine wp_region_flow [(true, 0), (true, 1), (true, 2), (true, 3), (true, 4), (true, 5), (true, 7), (true, 8), (false, 6), (false, 9), (true, 10), (true, 11)] (fun _ => false) (by kernel_rfl) (by kernel_rfl) (by kernel_rfl) (by kernel_rfl) ?_
            iterate 1
              apply Flow.calm2 _ _ rfl rfl
              · intro w' hb' K' hK'
                obtain ⟨hc', hf'⟩ := hb'.rule
                go_simp
                try go_ints
                exact hK'
              · intro K' hK'
                simp only [Act.put, List.setIfInBounds_toArray, List.set_cons_zero, List.set_cons_succ]
                exact hK'
            iterate 1
              apply Flow.calm2 _ _ rfl rfl
              · intro w' hb' K' hK'
                obtain ⟨hc', hf'⟩ := hb'.rule
                go_simp
                try go_ints
                exact hK'
              · intro K' hK'
                simp only [Act.put, List.setIfInBounds_toArray, List.set_cons_zero, List.set_cons_succ]
                exact hK'
            iterate 1
              apply Flow.calm2 _ _ rfl rfl
              · intro w' hb' K' hK'
                obtain ⟨hc', hf'⟩ := hb'.rule
                go_simp
                try go_ints
                exact hK'
              · intro K' hK'
                simp only [Act.put, List.setIfInBounds_toArray, List.set_cons_zero, List.set_cons_succ]
                exact hK'
            iterate 1
              apply Flow.mv _ rfl
              · intro K' hK'
                simp only [Act.put, Act.eval, List.setIfInBounds_toArray, List.set_cons_zero, List.set_cons_succ, arr_getD, List.getD_cons_zero, List.getD_cons_succ]
                exact hK'
            first
              | (apply Flow.pass rfl (by rfl))
              | (apply Flow.calmG _ rfl (by rfl)
                 · intro w' hb'
                   obtain ⟨hc', hf'⟩ := hb'.rule
                   go_simp
                   all_goals (try rfl))
            simp only [Act.put, List.setIfInBounds_toArray, List.set_cons_zero, List.set_cons_succ]
            try go_ints
            first
              | (apply Flow.pass rfl (by rfl))
              | (apply Flow.calmG _ rfl (by rfl)
                 · intro w' hb'
                   obtain ⟨hc', hf'⟩ := hb'.rule
                   go_simp
                   all_goals (try rfl))
            simp only [Act.put, List.setIfInBounds_toArray, List.set_cons_zero, List.set_cons_succ]
            try go_ints
            first
              | (apply Flow.pass rfl (by rfl))
              | (apply Flow.calmG _ rfl (by rfl)
                 · intro w' hb'
                   obtain ⟨hc', hf'⟩ := hb'.rule
                   go_simp
                   all_goals (try rfl))
            simp only [Act.put, List.setIfInBounds_toArray, List.set_cons_zero, List.set_cons_succ]
            try go_ints
            first
              | (apply Flow.pass rfl (by rfl))
              | (apply Flow.calmG _ rfl (by rfl)
                 · intro w' hb'
                   obtain ⟨hc', hf'⟩ := hb'.rule
                   go_simp
                   all_goals (try rfl))
            simp only [Act.put, List.setIfInBounds_toArray, List.set_cons_zero, List.set_cons_succ]
            try go_ints
            -- a guarded mover
            apply Flow.move rfl
            go_wp2_with fail
            refine (splitS_any rt _ (by have := Hsm.out; omega) (by exact HC.out.bl Hb9.out.drew)).mono ?_
            rintro e w4 ⟨c4, rfl, hr4, hb4⟩
            have HB1 := hb4
            have hc4 := Lib.hid (fun wx (h : Bl w4 wx) => containsS_any _ c4 (wordsOf rt) vt wx (hr4.bl h) (by have := wordsOf_num rt; have := Hsm.out; omega))
            go_wp2_with fail
            refine ⟨fun _ => (by first | exact HB1 | exact Bl.refl _), ?_⟩
            -- a guarded mover
            apply Flow.move rfl
            go_wp2_with fail
            refine (hc4.out _ (Bl.refl _)).mono ?_
            rintro e w5 ⟨rfl, rfl⟩
            go_wp2_with fail
            refine ⟨fun _ => (by first | exact HB2 | exact Bl.refl _), ?_⟩
            iterate 1
              apply Flow.calm2 _ _ rfl rfl
              · intro w' hb' K' hK'
                obtain ⟨hc', hf'⟩ := hb'.rule
                go_simp
                try go_ints
                exact hK'
              · intro K' hK'
                simp only [Act.put, List.setIfInBounds_toArray, List.set_cons_zero, List.set_cons_succ]
                exact hK'
            iterate 1
              apply Flow.asg _ rfl
              · intro K' hK'
                simp only [Act.put, Act.eval, List.setIfInBounds_toArray, List.set_cons_zero, List.set_cons_succ, arr_getD, List.getD_cons_zero, List.getD_cons_succ]
                exact hK'
            refine Flow.done ?_
            go_wp2_with fail
            go_meet
            case rel => exact ⟨by rw [HX.out], (Bl.refl _).drew.trans HB1⟩
        · have HX := Lib.hid (show hb = decide (vt = ot) by rw [← HHB.out]; rfl)
          cases hc : (vt == ot) with
          | true =>
            have HX2 := Lib.hid (show hb = true by rw [HX.out]; simpa using hc)
            go_wp2_with fail
            go_meet
            case rel => exact ⟨by rw [HX2.out], Bl.refl _⟩
          | false =>
            have HX2 := Lib.hid (show hb = false by rw [HX.out]; simpa using hc)
            go_wp2_with fail
            go_meet
            case rel => exact ⟨by rw [HX2.out], Bl.refl _⟩
        · cases te with
          | true =>
            have HX := Lib.hid (show hb = true by rw [← HHB.out]; show (vt.isEmpty || _) = true; rw [Hte.out]; rfl)
            go_wp2_with fail
            go_meet
            case rel => exact ⟨by rw [HX.out], Bl.refl _⟩
          | false =>
          cases oe with
          | true =>
            have HX := Lib.hid (show hb = true by rw [← HHB.out]; show (vt.isEmpty || (ot.isEmpty || _)) = true; rw [Hoe.out]; cases vt.isEmpty <;> rfl)
            go_wp2_with fail
            go_meet
            case rel => exact ⟨by rw [HX.out], Bl.refl _⟩
          | false =>
          have HX := Lib.hid (show hb = (madeOf vt digits10 && (madeOf ot digits10 && decide (sumSg vt vt.length % 10 = digAt ot (ot.length - 1)))) by
            rw [← HHB.out]; show (vt.isEmpty || (ot.isEmpty || _)) = _; rw [Hte.out, Hoe.out]; rfl)
          have hsz : (⟨vt.toArray⟩ : ByteArray).size = vt.length := Lib.size_mk vt
          have Hsz := Lib.hid hsz
          clear hsz
          go_wp2_with fail
          go_loopw [13] (fun s wi => ∃ (pos sm : Nat), s = .int .i64 sm ∧ wi = w9.iter ⟨vt.toArray⟩ pos ∧ sm ≤ 255 * pos ∧ (madeOf vt digits10 = true → pos ≤ vt.length ∧ sm = sumSg vt pos)) (fun _ wi => vt.length - wi.iterPos w9.heap.size)
          case atStart => exact ⟨0, 0, rfl, by first | rfl | trivial, Nat.zero_le _, fun _ => ⟨Nat.zero_le _, rfl⟩⟩
          case round =>
            clear k1 k2 k3 k4
            rename World => wi
            obtain ⟨pos, sm, rfl, hwi, hle, hmd⟩ := hrel
            have bi : Bl w9 wi := by rw [hwi]; exact (Bl.refl w9).alloc _
            by_cases hlt5 : pos < vt.length
            · have hps : pos < (⟨vt.toArray⟩ : ByteArray).size := by rw [Hsz.out]; exact hlt5
              have hg : vt[pos]? = some vt[pos] := List.getElem?_eq_getElem hlt5
              obtain ⟨b, hb0⟩ : ∃ b, b = vt[pos] := ⟨_, rfl⟩
              rw [← hb0] at hg
              obtain ⟨h1, h2⟩ := bytes_at hg
              obtain ⟨e1, e2⟩ := digAt_wrap hg
              have hwd : 1 ≤ (Utf8.decode ⟨vt.toArray⟩ pos).2 ∧ (b.toNat < 128 → (Utf8.decode ⟨vt.toArray⟩ pos).2 = 1) := by
                by_cases ha : b.toNat < 128
                · have hd := decode_ascii ⟨vt.toArray⟩ pos hps (by rw [h2]; exact ha)
                  rw [hd]
                  exact ⟨Nat.le_refl _, fun _ => rfl⟩
                · exact ⟨(decode_high ⟨vt.toArray⟩ pos hps (by rw [h2]; omega)).2, fun h => absurd h ha⟩
              have hnx := fun ty => run_next_any (P := Tryz.prog) w9 ⟨vt.toArray⟩ pos ty hps
              generalize Utf8.decode ⟨vt.toArray⟩ pos = dd at hnx hwd
              obtain ⟨rn, wd⟩ := dd
              simp only at hnx hwd
              rw [← hwi] at hnx
              obtain ⟨wn, hwn⟩ : ∃ x, x = w9.iter ⟨vt.toArray⟩ (pos + wd) := ⟨_, rfl⟩
              rw [← hwn] at hnx
              have bn : Bl w9 wn := by rw [hwn]; exact (Bl.refl w9).alloc _
              have k3 := (BP.out.bl bn).all4
              have hd9 := digAt_le vt pos
              obtain ⟨d, hd⟩ : ∃ d, d = digAt vt pos := ⟨_, rfl⟩
              rw [← hd] at hd9 e1 e2
              have hsm2 : sm ≤ 300000000 := by omega
              have HRel := Lib.hid (show sm + d ≤ 255 * (pos + wd) ∧ (madeOf vt digits10 = true → pos + wd ≤ vt.length ∧ sm + d = sumSg vt (pos + wd)) by
                refine ⟨by have := hwd.1; omega, fun hm => ?_⟩
                obtain ⟨-, hma⟩ := made_at hm hg
                have h1 := hwd.2 (by omega)
                obtain ⟨-, hs⟩ := hmd hm
                rw [h1]
                exact ⟨hlt5, by rw [hs, hd]; rfl⟩)
              have HW := Lib.hid hwn; have HWi := Lib.hid hwi; have Hw1 := Lib.hid hwd.1; have Hlt5 := Lib.hid hlt5
              clear hg hb0 hwd hwn hwi bi bn hd hle hmd hlt5 hps
              go_wp2_with fail
              exact ⟨⟨pos + wd, sm + d, by go_num, HW.out, HRel.out⟩, by rw [HW.out, HWi.out, World.iterPos_iter, World.iterPos_iter]; have := Hw1.out; have := Hlt5.out; omega⟩
            · have hnx : ∀ ty, (Instr.next (.pointer (some ⟨w9.heap.size, 0, none⟩)) true ty).run Tryz.prog wi = .ok (.tuple #[.bool false]) wi := fun ty => Lib.run_next_end_at wi w9.heap.size ⟨vt.toArray⟩ pos ty (by rw [hwi]; exact heap_alloc_new w9 _) (by rw [Hsz.out]; exact hlt5)
              have hol : 0 < ot.length := by
                cases ot with
                | nil => exact absurd hoe (by decide)
                | cons => simp
              have hg : ot[ot.length - 1]? = some ot[ot.length - 1] := List.getElem?_eq_getElem (by omega)
              obtain ⟨b, hb0⟩ : ∃ b, b = ot[ot.length - 1] := ⟨_, rfl⟩
              rw [← hb0] at hg
              obtain ⟨e1, e2⟩ := digAt_wrap hg
              obtain ⟨ol, hol2⟩ : ∃ z, z = ot.length - 1 := ⟨_, rfl⟩
              rw [← hol2] at hg e1 e2
              have hoi : ((ot.length : Int) - 1) = (ol : Int) := by omega
              obtain ⟨h1, h2⟩ := bytes_at hg
              have hd9 := digAt_le ot ol
              have HO := Lib.hid hol2
              obtain ⟨d, hd⟩ : ∃ d, d = digAt ot ol := ⟨_, rfl⟩
              rw [← hd] at hd9 e1 e2
              have HD := Lib.hid hd
              have hdv := Lib.hid (fun wx => digsR_any vt wx (by omega))
              have hdo := Lib.hid (fun wx => digsR_any ot wx (by omega))
              have Hmd := Lib.hid hmd; have Hlt5 := Lib.hid hlt5
              have Hbi := Lib.hid bi
              have k3 := (BP.out.bl bi).all4
              have k4 := (BQ.out.bl bi).all4
              have hsm2 : madeOf vt digits10 = true → sm ≤ 300000000 := fun hm => by have := (hmd hm).1; omega
              clear hg hb0 hd hol2 hwi hmd hle bi hlt5
              cases hma : madeOf vt digits10 with
              | false =>
                have HX2 := Lib.hid (show hb = false by rw [HX.out, hma]; rfl)
                rw [hma] at hdv
                clear hsm2
                go_wp2_with (go_at_call 46; refine (hdv.out _).mono ?_; rintro e w4 ⟨rfl, hb4⟩)
                go_meet
                case rel => exact ⟨by rw [HX2.out], Hbi.out.trans hb4⟩
              | true =>
                have hsm3 := hsm2 hma
                clear hsm2
                cases hmo : madeOf ot digits10 with
                | false =>
                  have HX2 := Lib.hid (show hb = false by rw [HX.out, hma, hmo]; rfl)
                  go_wp2_with (go_at_call 46; refine (digsR_any _ _ (by omega)).mono ?_; rintro e wd ⟨rfl, hbd⟩; first | (have hb4 := Hbi.out.trans hbd; have k3 := (BP.out.bl hb4).all4; have k4 := (BQ.out.bl hb4).all4) | (have hb5 := hb4.trans hbd; have k4 := (BQ.out.bl hb5).all4))
                  go_meet
                  case rel => exact ⟨by rw [HX2.out], hb5⟩
                | true =>
                  have HX2 := Lib.hid (show hb = decide ((sm : Int) % 10 = (d : Int)) by
                    have h := Hmd.out hma
                    have h3 := Hlt5.out
                    rw [HX.out, hma, hmo, h.2, show pos = vt.length by omega, HD.out, HO.out]; show decide _ = _; refine decide_eq_decide.2 ?_; omega)
                  go_wp2_with (go_at_call 46; refine (digsR_any _ _ (by omega)).mono ?_; rintro e wd ⟨rfl, hbd⟩; first | (have hb4 := Hbi.out.trans hbd; have k3 := (BP.out.bl hb4).all4; have k4 := (BQ.out.bl hb4).all4) | (have hb5 := hb4.trans hbd; have k4 := (BQ.out.bl hb5).all4))
                  go_meet
                  case rel => exact ⟨by rw [HX2.out] <;> rfl, hb5⟩
        · obtain ⟨n, hn⟩ : ∃ n, int2 rt = some n := Option.isSome_iff_exists.1 (Hok3.out.2 rfl)
          have HX := Lib.hid (show hb = decide ((vm.length : Int) = (n : Int)) by rw [← HHB.out]; show decide (int2 rt = some vm.length) = _; rw [hn]; exact decide_eq_decide.2 ⟨fun h => by injection h with h; omega, fun h => by rw [show n = vm.length by omega]⟩)
          have hct := Lib.hid (fun wx => number2_any ⟨rt.toArray⟩ wx (by rw [Lib.size_mk]; have := Hsm.out; omega))
          have Hn := Lib.hid hn
          clear hn
          go_wp2_with (go_at_call 49; refine (hct.out _).mono ?_; rintro e wa ⟨v, rfl, hv, hba⟩; have hvn := hv n Hn.out; have k3 := (BP.out.bl hba).all4; subst hvn)
          go_meet
          case rel => exact ⟨by rw [HX.out] <;> rfl, hba⟩
      case rest =>
      rename World => wz
      obtain ⟨rfl, hbz⟩ := hcut
      have Hbz := Lib.hid (Hb9.out.trans hbz); have HOz := Lib.hid (own_bl HOw.out (Hby9.out.trans hbz))
      have k2 := (B8.out.bl hbz).all4
      have hlez := (Hb9.out.trans hbz).le
      clear k1 k3 k4 hbz
      cases hb with
      | true =>
        have HX := Lib.hid (HRK.out rfl)
        go_wp2_with fail
        exact ⟨⟨i + 1, hlt, by go_num, Hbz.out, by rw [← HRKe.out, HX.out]; exact HOz.out⟩, by simp [RowKit.intOf]; omega⟩
      | false =>
        have HX := Lib.hid (HRM.out rfl)
        go_wp2_with (at_builtin; refine wpList_append_bl (w1 := w1) rfl (.tmp 139) (.tmp 144) 28 rfl 37 (.agg #[.int .i64 0, .string ⟨#[]⟩]) 2 24 Tryz.underlying28 info_broken rfl (by omega) w1.heap.size _ (brokenR l lr i).length ((brokenR l lr i).flatMap Brk.cells) rfl (Hbz.out.alloc _) (Nat.le_refl _) (by simp; omega) (HOz.out.alloc _) (some ⟨wz.heap.size, 0, none⟩) 1 1 [.int .i64 i, .string ⟨rf.toArray⟩] rfl ((Blk.new wz _ _).reads 1 2 rfl) (by simp [Value.oneCell']) (by unfold maxLen; omega) (by omega) ?_; intro v' w10 hown8 hb8 hg8; have HOw8 := Lib.hid hown8; have Hb10 := Lib.hid hb8; clear hown8 hb8 hg8)
        exact ⟨⟨i + 1, hlt, by go_num, Hb10.out, by rw [← HRKe.out, HX.out]; exact own_snoc HOw8.out⟩, by simp [RowKit.intOf]; omega⟩
    · obtain rfl : i = lr.length := by omega
      have Hby := Lib.hid hby; have HOw := Lib.hid hown
      obtain ⟨bR, hbR⟩ : ∃ b, b = brokenR l lr lr.length := ⟨_, rfl⟩
      rw [← hbR] at HOw
      have hlen : bR.length ≤ 50 := by rw [hbR]; have := brokenR_len l lr lr.length; omega
      have HbR := Lib.hid hbR
      clear hby hown hbR
      go_wp2_with fail
      go_loopw [7, 150] (fun b u wz => ∃ i : Nat, i ≤ lf.length ∧ u = .int .i64 i ∧ Bl w1 wz ∧ wz.ownsRow w1.heap.size 37 2 b (bR ++ brokenF l lr.length lf i).length ((bR ++ brokenF l lr.length lf i).flatMap Brk.cells)) (fun _ u _ => lf.length - (RowKit.intOf u).toNat)
      case atStart => exact ⟨0, Nat.zero_le _, rfl, Hby.out, by rw [show brokenF l lr.length lf 0 = [] from rfl, List.append_nil]; exact HOw.out⟩
      case round =>
        clear k1
        rename World => wz
        obtain ⟨i, hi, rfl, hbz, hown⟩ := hrel
        have k1 := (w11.bl hbz).all8
        by_cases hlt : i < lf.length
        · have hg : lf[i]? = some lf[i] := List.getElem?_eq_getElem hlt
          obtain ⟨x, hx⟩ : ∃ x, x = lf[i] := ⟨_, rfl⟩
          rw [← hx] at hg
          obtain ⟨ad, eA, j1, j2, j3, j4, j5, j6, j7, j8, j9⟩ := (HF.out.flds.bl hbz).at_ hg
          simp only at eA
          subst eA
          have Hbz := Lib.hid hbz; have HOz := Lib.hid hown; have HG := Lib.hid hg
          clear hg hx hbz hown
          go_upto_region 35 with fail
          obtain ⟨w8, hw8⟩ : ∃ y, y = wz.alloc (.cells #[.string ⟨x.name.toArray⟩, .int .i64 x.kind, .int .i64 x.box.X, .int .i64 x.box.Y, .int .i64 x.box.W, .int .i64 x.box.H, .slice x.M x.marks.length x.mc, .int .i64 x.most, .bool x.needed] 82) := ⟨_, rfl⟩
          have b8 : Blk w8 wz.heap.size 82 #[.string ⟨x.name.toArray⟩, .int .i64 x.kind, .int .i64 x.box.X, .int .i64 x.box.Y, .int .i64 x.box.W, .int .i64 x.box.H, .slice x.M x.marks.length x.mc, .int .i64 x.most, .bool x.needed] := by rw [hw8]; exact Blk.new _ _ _
          have hb8 : Bl wz w8 := by rw [hw8]; exact (Bl.refl _).alloc _
          rw [← hw8]
          have B8 := Lib.hid b8; have Hb8 := Lib.hid (Hbz.out.trans hb8); have Hbz8 := Lib.hid hb8
          have k1 := (w11.bl Hb8.out).all8
          have k2 := b8.all9
          have hg1 := Hget.out x.name w8 Hb8.out
          obtain ⟨v, hv⟩ : ∃ v, v = vluOf l x.name := ⟨_, rfl⟩
          have he := fun wx => empty_any v wx
          obtain ⟨hb, hhb⟩ : ∃ b, emptyB v = b := ⟨_, rfl⟩
          obtain ⟨nd, hnd⟩ : ∃ b, b = x.needed := ⟨_, rfl⟩
          rw [← hv] at hg1
          rw [hhb] at he
          obtain ⟨vv, hvv⟩ : ∃ y, y = v.val := ⟨_, rfl⟩
          rw [← hvv] at hg1 he
          have Hg1 := Lib.hid hg1; have He := Lib.hid he
          have Hhb := Lib.hid (show emptyB (vluOf l x.name) = hb by rw [← hv, hhb]); have Hnd := Lib.hid hnd
          rw [← hnd] at k2
          clear hw8 b8 hb8 j1 j2 j3 j4 j5 j6 j7 j8 j9 hg1 he hhb hnd hv hvv
          cases nd with
          | false =>
            have HX := Lib.hid (brokenF_keep (vs := l) (n := lr.length) HG.out (by rw [← Hnd.out]; rfl))
            go_wp2_with fail
            exact ⟨⟨i + 1, hlt, by go_num, Hb8.out, by rw [HX.out]; exact own_bl HOz.out Hbz8.out⟩, by simp [RowKit.intOf]; omega⟩
          | true =>
            cases hb with
            | false =>
              have HX := Lib.hid (brokenF_keep (vs := l) (n := lr.length) HG.out (by rw [Hhb.out, Bool.and_false]))
              go_wp2_with (first | (go_at_call 42; refine Hg1.out.mono ?_; rintro e w9 ⟨rfl, hb9⟩) | (go_at_call 45; refine (He.out _).mono ?_; rintro e w11' ⟨rfl, hb11⟩; have Hb9 := Lib.hid (Hb8.out.trans (hb9.trans hb11)); have Hby9 := Lib.hid (Hbz8.out.trans (hb9.trans hb11)); clear hb9 hb11))
              exact ⟨⟨i + 1, hlt, by go_num, Hb9.out, by rw [HX.out]; exact own_bl HOz.out Hby9.out⟩, by simp [RowKit.intOf]; omega⟩
            | true =>
              have HX := Lib.hid (brokenF_more (vs := l) (n := lr.length) HG.out (by rw [Hhb.out, ← Hnd.out]; rfl))
              have hlen2 := brokenF_len l lr.length lf i
              go_upto_region 36 with (first | (go_at_call 42; refine Hg1.out.mono ?_; rintro e w9 ⟨rfl, hb9⟩) | (go_at_call 45; refine (He.out _).mono ?_; rintro e wb ⟨rfl, hb11⟩; have Hb9 := Lib.hid (Hb8.out.trans (hb9.trans hb11)); have Hby9 := Lib.hid (Hbz8.out.trans (hb9.trans hb11)); have k2 := (B8.out.bl (hb9.trans hb11)).all9; have k1 := (w11.bl Hb9.out).all8; clear hb9 hb11))
              have HO9 := Lib.hid (own_bl HOz.out Hby9.out)
              have hle9 := Hb9.out.le
              have hsb : (lr.length : Int) + (i : Int) ≤ 200 := by omega
              have hln2 : (bR ++ brokenF l lr.length lf i).length ≤ 100 := by rw [List.length_append]; omega
              go_wp2_with (at_builtin; refine wpList_append_bl (w1 := w1) rfl (.tmp 165) (.tmp 174) 28 rfl 37 (.agg #[.int .i64 0, .string ⟨#[]⟩]) 2 24 Tryz.underlying28 info_broken rfl (by omega) w1.heap.size _ (bR ++ brokenF l lr.length lf i).length ((bR ++ brokenF l lr.length lf i).flatMap Brk.cells) rfl (Hb9.out.alloc _) (Nat.le_refl _) (by simp; omega) (HO9.out.alloc _) (some ⟨wb.heap.size, 0, none⟩) 1 1 [.int .i64 ((lr.length : Int) + (i : Int)), .string ⟨x.name.toArray⟩] rfl ((Blk.new wb _ _).reads 1 2 rfl) (by simp [Value.oneCell']) (by unfold maxLen; omega) (by omega) ?_; intro v' w10 hown8 hb8 hg8; have HOw8 := Lib.hid hown8; have Hb10 := Lib.hid hb8; clear hown8 hb8 hg8)
              exact ⟨⟨i + 1, hlt, by go_num, Hb10.out, by rw [HX.out, ← List.append_assoc]; refine own_snoc ?_; show World.ownsRow _ _ _ _ _ _ (_ ++ [.int .i64 ((lr.length + i : Nat) : Int), _]); rw [Int.natCast_add]; exact HOw8.out⟩, by simp [RowKit.intOf]; omega⟩
        · obtain rfl : i = lf.length := by omega
          obtain ⟨A, c', rfl, hr, -⟩ := own_new hown
          have HR := Lib.hid hr; have Hbz := Lib.hid hbz
          have HBL := Lib.hid (show brokenL l lr lf = bR ++ brokenF l lr.length lf lf.length by rw [HbR.out]; rfl)
          clear hown hr hbz
          go_wp2_with fail
          go_ret
          exact ⟨by rw [HBL.out]; exact ⟨A, c', rfl, HR.out⟩, HW1b.out.trans Hbz.out⟩
end Go.Proofs.YtahfkahfaiidgaaGreatDoor
