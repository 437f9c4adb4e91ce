/- forms.Rules: which rules values break. -/
import Derived.Test.YtahfkahfaiidgaaGreatDoorMClaimFormRules25
import Derived.Test.YtahfkahfaiidgaaGreatDoorMClaimFormRules23
import Derived.Test.YtahfkahfaiidgaaGreatDoorMClaimFormRules27
import Derived.Test.YtahfkahfaiidgaaGreatDoorMClaimFormRules1
import Derived.Test.YtahfkahfaiidgaaGreatDoorMClaimFormRules26

namespace Go.Proofs.YtahfkahfaiidgaaGreatDoor
open Go.RowKit Go.Shelf

set_option maxRecDepth 100000 in
set_option maxHeartbeats 1000000 in
theorem digsF_any (l : List UInt8) (w : World) (hl : l.length ≤ 9223372036854775807) :
    Calls Tryz.prog 77 #[.string ⟨l.toArray⟩] w fun e w' => e = .returned (.bool (madeOf l digits10)) ∧ Bl w w' := by
  have Ht := Lib.hid (trim_any l digits10 w hl (by decide) digits_ascii)
  have hsz : (⟨l.toArray⟩ : ByteArray).size = l.length := Lib.size_mk l
  have HD := Lib.hid (show madeOf l digits10 = (Lib.trimS l digits10).isEmpty by rw [trim_made])
  go_enter Tryz.func77, Tryz.ntmps77
  go_wp2_with fail
  refine Ht.out.mono ?_
  rintro e w1 ⟨rfl, hb⟩
  go_wp2_with fail
  go_ret
  exact ⟨ret_bool HD.out.symm, hb⟩
set_option maxRecDepth 100000 in
set_option maxHeartbeats 1000000 in
theorem digsR_any (l : List UInt8) (w : World) (hl : l.length ≤ 9223372036854775807) :
    Calls Tryz.prog 46 #[.string ⟨l.toArray⟩, .int .i64 l.length] w fun e w' => e = .returned (.bool (madeOf l digits10)) ∧ Bl w w' := by
  have Ht := Lib.hid (trim_any l digits10 w hl (by decide) digits_ascii)
  have hsz : (⟨l.toArray⟩ : ByteArray).size = l.length := Lib.size_mk l
  have HD := Lib.hid (show madeOf l digits10 = (Lib.trimS l digits10).isEmpty by rw [trim_made])
  have hq : ((l.length : Int) == (l.length : Int)) = true := by simp
  go_enter Tryz.func46, Tryz.ntmps46
  go_wp2_with fail
  refine Ht.out.mono ?_
  rintro e w1 ⟨rfl, hb⟩
  go_wp2_with fail
  go_ret
  exact ⟨ret_bool HD.out.symm, hb⟩

theorem digAt_wrap {l : List UInt8} {i : Nat} {b : UInt8} (h : l[i]? = some b) : IntKind.u8.wrap ((b.toNat : Int) - 48) = (digAt l i : Int) ∧ ((b.toNat : Int) - 48) % 256 = (digAt l i : Int) := by
  have e : digAt l i = (208 + b.toNat) % 256 := by
    unfold digAt
    rw [List.getD_eq_getElem?_getD, h]
    show (b - 48).toNat = _
    rw [UInt8.toNat_sub]
    rfl
  have hb := b.toNat_lt
  have : ((b.toNat : Int) - 48) % 256 = (digAt l i : Int) := by rw [e]; omega
  exact ⟨by rw [IntKind.wrap_u8]; exact this, this⟩
set_option maxRecDepth 100000 in
set_option maxHeartbeats 8000000 in
theorem holds_any (r : Rul) (vs : List Vlu) (gm : Nat) (w : World) (hM : MapV w gm vs) (hS : ∀ v ∈ vs, v.text.length ≤ 1048576 ∧ v.marks.length ≤ 9223372036854775807) (hr : inB r.kind 1 6 = true) (h6 : r.kind = 6 → (int2 r.text).isSome = true) (h3 : r.text.length ≤ 1048576) (hN : NumOk w) (hC : SplitOk w) :
    Calls Tryz.prog 28 #[r.val, .map (some gm)] w fun e w' => e = .returned (.bool (holdsB r (vluOf vs r.field) (vluOf vs r.other))) ∧ Bl w w' := by
  obtain ⟨k, rf, ro, rt⟩ := r
  obtain ⟨RB, hRB⟩ : ∃ y, y = holdsB ⟨k, rf, ro, rt⟩ (vluOf vs rf) (vluOf vs ro) := ⟨_, rfl⟩
  show Calls _ _ _ w fun e w' => e = .returned (.bool (holdsB ⟨k, rf, ro, rt⟩ (vluOf vs rf) (vluOf vs ro))) ∧ Bl w w'
  rw [← hRB]
  replace h6 : k = 6 → (int2 rt).isSome = true := h6
  replace h3 : rt.length ≤ 1048576 := h3
  replace hr : inB k 1 6 = true := hr
  have HRB := Lib.hid hRB
  let w1 := (w).alloc (.cells #[.int .i64 k, .string ⟨rf.toArray⟩, .string ⟨ro.toArray⟩, .string ⟨rt.toArray⟩] 76)
  have w1b : Bl w w1 := (Bl.refl w).alloc _
  have w11 : Blk w1 (w.heap.size) 76 #[.int .i64 k, .string ⟨rf.toArray⟩, .string ⟨ro.toArray⟩, .string ⟨rt.toArray⟩] := by
    have h0 := Blk.new (w) 76 #[.int .i64 k, .string ⟨rf.toArray⟩, .string ⟨ro.toArray⟩, .string ⟨rt.toArray⟩]
    exact h0
  have hl1 := fun wx (h : Bl w1 wx) => (hM.bl (w1b.trans h)).lookup rf
  have hl2 := fun wx (h : Bl w1 wx) => (hM.bl (w1b.trans h)).lookup ro
  have hv1 : (vluOf vs rf).text.length ≤ 1048576 ∧ (vluOf vs rf).marks.length ≤ 9223372036854775807 := vluOf_ind vs rf (Q := fun v => v.text.length ≤ 1048576 ∧ v.marks.length ≤ 9223372036854775807) ⟨Nat.zero_le _, Nat.zero_le _⟩ hS
  have hv2 : (vluOf vs ro).text.length ≤ 1048576 ∧ (vluOf vs ro).marks.length ≤ 9223372036854775807 := vluOf_ind vs ro (Q := fun v => v.text.length ≤ 1048576 ∧ v.marks.length ≤ 9223372036854775807) ⟨Nat.zero_le _, Nat.zero_le _⟩ hS
  generalize vluOf vs rf = v at hl1 hv1 HRB
  generalize vluOf vs ro = o at hl2 hv2 HRB
  obtain ⟨vf, vt, vM, vc, vm, vS⟩ := v
  obtain ⟨of, ot, oM, oc, om, oS⟩ := o
  unfold Vlu.val at hl1 hl2
  simp only at hv1 hv2 hl1 hl2
  have hN1 := hN.bl w1b
  have hC1 := hC.bl w1b
  have k1 := w11.all4
  have sz1 : w1.heap.size = w.heap.size + 1 := by simp [w1]
  have HN := Lib.hid hN1; have HC := Lib.hid hC1; have HW1b := Lib.hid w1b
  clear hRB hM hS hN hC hN1 hC1 w1b
  unfold Rul.val
  go_enter Tryz.func28, Tryz.ntmps28
  go_upto_region 1 with fail
  rw [show w.alloc (.cells #[.int .i64 k, .string ⟨rf.toArray⟩, .string ⟨ro.toArray⟩, .string ⟨rt.toArray⟩] 76) = w1 from rfl]
  clear_value w1
  go_cut [5, 6] from 11 to 19 (fun s5 s6 wc => ∃ p q, s5 = .pointer (some ⟨p, 0, none⟩) ∧ s6 = .pointer (some ⟨q, 0, none⟩) ∧ Blk wc p 73 #[.string ⟨vf.toArray⟩, .string ⟨vt.toArray⟩, .slice vM vm.length vc, .int .i64 vS] ∧ Blk wc q 73 #[.string ⟨of.toArray⟩, .string ⟨ot.toArray⟩, .slice oM om.length oc, .int .i64 oS] ∧ Bl w1 wc)
  case first =>
    refine wp_region_tree (Bl w1) [(true, 0), (true, 1), (true, 2), (true, 3), (true, 4), (true, 5), (true, 6), (true, 7)] (.one 8 [] (.one 9 [] (.one 10 [] (.one 11 [] .none .none) .none) .none) (.one 9 [] (.one 8 [] (.one 10 [] (.one 11 [] .none .none) .none) .none) .none)) (by kernel_rfl) (by kernel_rfl) (by kernel_rfl) (by kernel_rfl) (Bl.drew (Bl.refl w1)) ?_
    obtain ⟨wxd, hwxd⟩ : ∃ x, x = (w1).drew := ⟨_, rfl⟩
    have HBD : Bl w1 wxd := by rw [hwxd]; exact Bl.drew (Bl.refl w1)
    rw [← hwxd]
    clear hwxd
    iterate 1
      apply FlowS.mv _ rfl
      · intro K' hK'
        simp only [Act.put, Act.eval, List.setIfInBounds_toArray, List.set_cons_zero, List.set_cons_succ, arr_getD, List.getD_cons_zero, List.getD_cons_succ]
        exact hK'
    iterate 1
      apply FlowS.calm2 _ _ rfl rfl
      · intro w' hb' K' hK'
        obtain ⟨hc', hf'⟩ := hb'.rule
        go_simp
        try go_ints
        exact hK'
      · intro K' hK'
        simp only [Act.put, List.setIfInBounds_toArray, List.set_cons_zero, List.set_cons_succ]
        exact hK'
    iterate 1
      apply FlowS.calm2 _ _ rfl rfl
      · intro w' hb' K' hK'
        obtain ⟨hc', hf'⟩ := hb'.rule
        go_simp
        try go_ints
        exact hK'
      · intro K' hK'
        simp only [Act.put, List.setIfInBounds_toArray, List.set_cons_zero, List.set_cons_succ]
        exact hK'
    iterate 1
      apply FlowS.calm2 _ _ rfl rfl
      · intro w' hb' K' hK'
        obtain ⟨hc', hf'⟩ := hb'.rule
        go_simp
        try go_ints
        exact hK'
      · intro K' hK'
        simp only [Act.put, List.setIfInBounds_toArray, List.set_cons_zero, List.set_cons_succ]
        exact hK'
    iterate 1
      apply FlowS.mv _ rfl
      · intro K' hK'
        simp only [Act.put, Act.eval, List.setIfInBounds_toArray, List.set_cons_zero, List.set_cons_succ, arr_getD, List.getD_cons_zero, List.getD_cons_succ]
        exact hK'
    iterate 1
      apply FlowS.calm2 _ _ rfl rfl
      · intro w' hb' K' hK'
        obtain ⟨hc', hf'⟩ := hb'.rule
        go_simp
        try go_ints
        exact hK'
      · intro K' hK'
        simp only [Act.put, List.setIfInBounds_toArray, List.set_cons_zero, List.set_cons_succ]
        exact hK'
    iterate 1
      apply FlowS.calm2 _ _ rfl rfl
      · intro w' hb' K' hK'
        obtain ⟨hc', hf'⟩ := hb'.rule
        go_simp
        try go_ints
        exact hK'
      · intro K' hK'
        simp only [Act.put, List.setIfInBounds_toArray, List.set_cons_zero, List.set_cons_succ]
        exact hK'
    iterate 1
      apply FlowS.calm2 _ _ rfl rfl
      · intro w' hb' K' hK'
        obtain ⟨hc', hf'⟩ := hb'.rule
        go_simp
        try go_ints
        exact hK'
      · intro K' hK'
        simp only [Act.put, List.setIfInBounds_toArray, List.set_cons_zero, List.set_cons_succ]
        exact hK'
    refine Tree.fork ?_
    refine Tree.part rfl ?_ ?_
    · skip
      go_wp2_with fail
      obtain ⟨wx8, hwx8⟩ : ∃ x, x = (wxd).alloc (.cells #[.string ⟨#[]⟩, .string ⟨#[]⟩, .slice none 0 0, .int .i64 0] 73) := ⟨_, rfl⟩
      have bk8 : Blk wx8 (wxd).heap.size 73 #[.string ⟨#[]⟩, .string ⟨#[]⟩, .slice none 0 0, .int .i64 0] := by rw [hwx8]; exact Blk.new _ _ _
      have bb8 : Bl wxd wx8 := by rw [hwx8]; exact (Bl.refl _).alloc _
      rw [← hwx8]
      clear hwx8
      have HB8 : Bl w1 wx8 := (HBD).trans bb8
      refine ⟨HB8, ?_⟩
      refine Tree.fork ?_
      refine Tree.part rfl ?_ ?_
      · skip
        go_wp2_with fail
        obtain ⟨wx9, hwx9⟩ : ∃ x, x = (wx8).alloc (.cells #[.string ⟨#[]⟩, .string ⟨#[]⟩, .slice none 0 0, .int .i64 0] 73) := ⟨_, rfl⟩
        have bk9 : Blk wx9 (wx8).heap.size 73 #[.string ⟨#[]⟩, .string ⟨#[]⟩, .slice none 0 0, .int .i64 0] := by rw [hwx9]; exact Blk.new _ _ _
        have bb9 : Bl wx8 wx9 := by rw [hwx9]; exact (Bl.refl _).alloc _
        rw [← hwx9]
        clear hwx9
        have HB9 : Bl w1 wx9 := (HB8).trans bb9
        have bk8_9 := (bk8).bl bb9
        refine ⟨HB9, ?_⟩
        refine Tree.fork ?_
        refine Tree.part rfl ?_ ?_
        · skip
          have kst := (bk8_9).all4
          go_wp2_with fail
          obtain ⟨wx10, hwx10⟩ : ∃ x, x = ((((wx9.setCell ⟨wxd.heap.size, 0, none⟩ (.string ⟨vf.toArray⟩)).setCell ⟨wxd.heap.size, 1, none⟩ (.string ⟨vt.toArray⟩)).setCell ⟨wxd.heap.size, 2, none⟩ (.slice vM vm.length vc)).setCell ⟨wxd.heap.size, 3, none⟩ (.int .i64 vS)) := ⟨_, rfl⟩
          rw [← hwx10]
          have bk8_10 : Blk wx10 wxd.heap.size 73 #[.string ⟨vf.toArray⟩, .string ⟨vt.toArray⟩, .slice vM vm.length vc, .int .i64 vS] := by rw [hwx10]; exact (((((bk8_9).set_ 0 _).set_ 1 _).set_ 2 _).set_ 3 _)
          have bk9_10 : Blk wx10 wx8.heap.size 73 #[.string ⟨#[]⟩, .string ⟨#[]⟩, .slice none 0 0, .int .i64 0] := by
            have hne : wx8.heap.size ≠ wxd.heap.size := by
              have hle8 := bb8.le
              have hle9 := bb9.le
              have hlt8 := bk8.lt
              have hlt9 := bk9.lt
              omega
            rw [hwx10]
            exact (((((bk9).far (p := ⟨wxd.heap.size, 0, none⟩) hne _).far (p := ⟨wxd.heap.size, 1, none⟩) hne _).far (p := ⟨wxd.heap.size, 2, none⟩) hne _).far (p := ⟨wxd.heap.size, 3, none⟩) hne _)
          have HB10 : Bl w1 wx10 := by rw [hwx10]; exact (((((HB9).setCell (by exact HBD.le) _).setCell (by exact HBD.le) _).setCell (by exact HBD.le) _).setCell (by exact HBD.le) _)
          clear kst hwx10
          refine ⟨HB10, ?_⟩
          refine Tree.fork ?_
          refine Tree.last rfl ?_ ?_
          · skip
            have kst := (bk9_10).all4
            go_wp2_with fail
            obtain ⟨wx11, hwx11⟩ : ∃ x, x = ((((wx10.setCell ⟨wx8.heap.size, 0, none⟩ (.string ⟨of.toArray⟩)).setCell ⟨wx8.heap.size, 1, none⟩ (.string ⟨ot.toArray⟩)).setCell ⟨wx8.heap.size, 2, none⟩ (.slice oM om.length oc)).setCell ⟨wx8.heap.size, 3, none⟩ (.int .i64 oS)) := ⟨_, rfl⟩
            rw [← hwx11]
            have bk9_11 : Blk wx11 wx8.heap.size 73 #[.string ⟨of.toArray⟩, .string ⟨ot.toArray⟩, .slice oM om.length oc, .int .i64 oS] := by rw [hwx11]; exact (((((bk9_10).set_ 0 _).set_ 1 _).set_ 2 _).set_ 3 _)
            have bk8_11 : Blk wx11 wxd.heap.size 73 #[.string ⟨vf.toArray⟩, .string ⟨vt.toArray⟩, .slice vM vm.length vc, .int .i64 vS] := by
              have hne : wxd.heap.size ≠ wx8.heap.size := by
                have hle8 := bb8.le
                have hle9 := bb9.le
                have hlt8 := bk8.lt
                have hlt9 := bk9.lt
                omega
              rw [hwx11]
              exact (((((bk8_10).far (p := ⟨wx8.heap.size, 0, none⟩) hne _).far (p := ⟨wx8.heap.size, 1, none⟩) hne _).far (p := ⟨wx8.heap.size, 2, none⟩) hne _).far (p := ⟨wx8.heap.size, 3, none⟩) hne _)
            have HB11 : Bl w1 wx11 := by rw [hwx11]; exact (((((HB10).setCell (by exact HB8.le) _).setCell (by exact HB8.le) _).setCell (by exact HB8.le) _).setCell (by exact HB8.le) _)
            clear kst hwx11
            refine ⟨HB11, ?_⟩
            refine FlowS.done ?_
            go_wp2_with fail
            go_meet
            case rel => exact ⟨_, _, rfl, rfl, bk8_11, bk9_11, HB11⟩
          exact Tree.nil
        exact Tree.nil
      exact Tree.nil
    refine Tree.part rfl ?_ ?_
    · skip
      go_wp2_with fail
      obtain ⟨wx9, hwx9⟩ : ∃ x, x = (wxd).alloc (.cells #[.string ⟨#[]⟩, .string ⟨#[]⟩, .slice none 0 0, .int .i64 0] 73) := ⟨_, rfl⟩
      have bk9 : Blk wx9 (wxd).heap.size 73 #[.string ⟨#[]⟩, .string ⟨#[]⟩, .slice none 0 0, .int .i64 0] := by rw [hwx9]; exact Blk.new _ _ _
      have bb9 : Bl wxd wx9 := by rw [hwx9]; exact (Bl.refl _).alloc _
      rw [← hwx9]
      clear hwx9
      have HB9 : Bl w1 wx9 := (HBD).trans bb9
      refine ⟨HB9, ?_⟩
      refine Tree.fork ?_
      refine Tree.part rfl ?_ ?_
      · skip
        go_wp2_with fail
        obtain ⟨wx8, hwx8⟩ : ∃ x, x = (wx9).alloc (.cells #[.string ⟨#[]⟩, .string ⟨#[]⟩, .slice none 0 0, .int .i64 0] 73) := ⟨_, rfl⟩
        have bk8 : Blk wx8 (wx9).heap.size 73 #[.string ⟨#[]⟩, .string ⟨#[]⟩, .slice none 0 0, .int .i64 0] := by rw [hwx8]; exact Blk.new _ _ _
        have bb8 : Bl wx9 wx8 := by rw [hwx8]; exact (Bl.refl _).alloc _
        rw [← hwx8]
        clear hwx8
        have HB8 : Bl w1 wx8 := (HB9).trans bb8
        have bk9_8 := (bk9).bl bb8
        refine ⟨HB8, ?_⟩
        refine Tree.fork ?_
        refine Tree.part rfl ?_ ?_
        · skip
          have kst := (bk8).all4
          go_wp2_with fail
          obtain ⟨wx10, hwx10⟩ : ∃ x, x = ((((wx8.setCell ⟨wx9.heap.size, 0, none⟩ (.string ⟨vf.toArray⟩)).setCell ⟨wx9.heap.size, 1, none⟩ (.string ⟨vt.toArray⟩)).setCell ⟨wx9.heap.size, 2, none⟩ (.slice vM vm.length vc)).setCell ⟨wx9.heap.size, 3, none⟩ (.int .i64 vS)) := ⟨_, rfl⟩
          rw [← hwx10]
          have bk8_10 : Blk wx10 wx9.heap.size 73 #[.string ⟨vf.toArray⟩, .string ⟨vt.toArray⟩, .slice vM vm.length vc, .int .i64 vS] := by rw [hwx10]; exact (((((bk8).set_ 0 _).set_ 1 _).set_ 2 _).set_ 3 _)
          have bk9_10 : Blk wx10 wxd.heap.size 73 #[.string ⟨#[]⟩, .string ⟨#[]⟩, .slice none 0 0, .int .i64 0] := by
            have hne : wxd.heap.size ≠ wx9.heap.size := by
              have hle9 := bb9.le
              have hle8 := bb8.le
              have hlt8 := bk8.lt
              have hlt9 := bk9.lt
              omega
            rw [hwx10]
            exact (((((bk9_8).far (p := ⟨wx9.heap.size, 0, none⟩) hne _).far (p := ⟨wx9.heap.size, 1, none⟩) hne _).far (p := ⟨wx9.heap.size, 2, none⟩) hne _).far (p := ⟨wx9.heap.size, 3, none⟩) hne _)
          have HB10 : Bl w1 wx10 := by rw [hwx10]; exact (((((HB8).setCell (by exact HB9.le) _).setCell (by exact HB9.le) _).setCell (by exact HB9.le) _).setCell (by exact HB9.le) _)
          clear kst hwx10
          refine ⟨HB10, ?_⟩
          refine Tree.fork ?_
          refine Tree.last rfl ?_ ?_
          · skip
            have kst := (bk9_10).all4
            go_wp2_with fail
            obtain ⟨wx11, hwx11⟩ : ∃ x, x = ((((wx10.setCell ⟨wxd.heap.size, 0, none⟩ (.string ⟨of.toArray⟩)).setCell ⟨wxd.heap.size, 1, none⟩ (.string ⟨ot.toArray⟩)).setCell ⟨wxd.heap.size, 2, none⟩ (.slice oM om.length oc)).setCell ⟨wxd.heap.size, 3, none⟩ (.int .i64 oS)) := ⟨_, rfl⟩
            rw [← hwx11]
            have bk9_11 : Blk wx11 wxd.heap.size 73 #[.string ⟨of.toArray⟩, .string ⟨ot.toArray⟩, .slice oM om.length oc, .int .i64 oS] := by rw [hwx11]; exact (((((bk9_10).set_ 0 _).set_ 1 _).set_ 2 _).set_ 3 _)
            have bk8_11 : Blk wx11 wx9.heap.size 73 #[.string ⟨vf.toArray⟩, .string ⟨vt.toArray⟩, .slice vM vm.length vc, .int .i64 vS] := by
              have hne : wx9.heap.size ≠ wxd.heap.size := by
                have hle9 := bb9.le
                have hle8 := bb8.le
                have hlt8 := bk8.lt
                have hlt9 := bk9.lt
                omega
              rw [hwx11]
              exact (((((bk8_10).far (p := ⟨wxd.heap.size, 0, none⟩) hne _).far (p := ⟨wxd.heap.size, 1, none⟩) hne _).far (p := ⟨wxd.heap.size, 2, none⟩) hne _).far (p := ⟨wxd.heap.size, 3, none⟩) hne _)
            have HB11 : Bl w1 wx11 := by rw [hwx11]; exact (((((HB10).setCell (by exact HBD.le) _).setCell (by exact HBD.le) _).setCell (by exact HBD.le) _).setCell (by exact HBD.le) _)
            clear kst hwx11
            refine ⟨HB11, ?_⟩
            refine FlowS.done ?_
            go_wp2_with fail
            go_meet
            case rel => exact ⟨_, _, rfl, rfl, bk8_11, bk9_11, HB11⟩
          exact Tree.nil
        exact Tree.nil
      exact Tree.nil
    exact Tree.nil
  case rest =>
  rename World => w3
  obtain ⟨p, q, rfl, rfl, bp, bq, hb3⟩ := hcut
  have k1 := (w11.bl hb3).all4
  have k2 := bp.all4
  have k3 := bq.all4
  have HN3 := Lib.hid (HN.out.bl hb3); have HC3 := Lib.hid (HC.out.bl hb3); have Hb3 := Lib.hid (HW1b.out.trans hb3)
  have W11 := Lib.hid (w11.bl hb3); have BP := Lib.hid bp; have BQ := Lib.hid bq
  have hk : k = 1 ∨ k = 2 ∨ k = 3 ∨ k = 4 ∨ k = 5 ∨ k = 6 := by have := inB_true.1 hr; omega
  clear hr hl1 hl2 hb3 bp bq HN HC HW1b w11
  obtain ⟨te, hte⟩ : ∃ b, vt.isEmpty = b := ⟨_, rfl⟩
  obtain ⟨oe, hoe⟩ : ∃ b, ot.isEmpty = b := ⟨_, rfl⟩
  have Hte := Lib.hid hte; have Hoe := Lib.hid hoe
  rcases hk with rfl | rfl | rfl | rfl | rfl | rfl
  · cases te with
    | false =>
      have HX := Lib.hid (show RB = true by rw [HRB.out]; unfold holdsB; rw [if_pos rfl]; unfold emptyB; rw [Hte.out]; rfl)
      go_wp2_with fail
      go_ret
      exact ⟨by rw [HX.out]; rfl, Hb3.out⟩
    | true =>
      have HX := Lib.hid (show RB = decide (0 < vm.length) by
        rw [HRB.out]; unfold holdsB; rw [if_pos rfl]; unfold emptyB; rw [Hte.out]
        by_cases h0 : vm.length = 0
        · simp [h0]
        · simp [h0, Nat.pos_of_ne_zero h0])
      go_wp2_with fail
      go_ret
      exact ⟨by rw [HX.out] <;> rfl, Hb3.out⟩
  · have HX := Lib.hid (show RB = madeOf vt digits10 by rw [HRB.out]; rfl)
    have hcall := Lib.hid (fun wx => digsF_any vt wx (by omega))
    go_wp2_with (go_at_call 77; refine (hcall.out _).mono ?_; rintro e w4 ⟨rfl, hb4⟩)
    go_ret
    exact ⟨by rw [HX.out] <;> rfl, Hb3.out.trans hb4⟩
  · cases te with
    | true =>
      have HX := Lib.hid (show RB = true by rw [HRB.out]; show (vt.isEmpty || _) = true; rw [Hte.out]; rfl)
      go_upto_region 8 with fail
      refine wp_region_flow [(true, 0), (true, 1), (true, 2), (true, 3), (true, 4), (true, 5), (true, 7), (true, 8), (false, 6), (false, 9), (true, 10), (true, 11)] (fun _ => false) (by kernel_rfl) (by kernel_rfl) (by kernel_rfl) (by kernel_rfl) ?_
      iterate 1
        apply Flow.calm2 _ _ rfl rfl
        · intro w' hb' K' hK'
          obtain ⟨hc', hf'⟩ := hb'.rule
          go_simp
          try go_ints
          exact hK'
        · intro K' hK'
          simp only [Act.put, List.setIfInBounds_toArray, List.set_cons_zero, List.set_cons_succ]
          exact hK'
      iterate 1
        apply Flow.calm2 _ _ rfl rfl
        · intro w' hb' K' hK'
          obtain ⟨hc', hf'⟩ := hb'.rule
          go_simp
          try go_ints
          exact hK'
        · intro K' hK'
          simp only [Act.put, List.setIfInBounds_toArray, List.set_cons_zero, List.set_cons_succ]
          exact hK'
      iterate 1
        apply Flow.calm2 _ _ rfl rfl
        · intro w' hb' K' hK'
          obtain ⟨hc', hf'⟩ := hb'.rule
          go_simp
          try go_ints
          exact hK'
        · intro K' hK'
          simp only [Act.put, List.setIfInBounds_toArray, List.set_cons_zero, List.set_cons_succ]
          exact hK'
      iterate 1
        apply Flow.mv _ rfl
        · intro K' hK'
          simp only [Act.put, Act.eval, List.setIfInBounds_toArray, List.set_cons_zero, List.set_cons_succ, arr_getD, List.getD_cons_zero, List.getD_cons_succ]
          exact hK'
      first
        | (apply Flow.pass rfl (by rfl))
        | (apply Flow.calmG _ rfl (by rfl)
           · intro w' hb'
             obtain ⟨hc', hf'⟩ := hb'.rule
             go_simp
             all_goals (try rfl))
      simp only [Act.put, List.setIfInBounds_toArray, List.set_cons_zero, List.set_cons_succ]
      try go_ints
      first
        | (apply Flow.pass rfl (by rfl))
        | (apply Flow.calmG _ rfl (by rfl)
           · intro w' hb'
             obtain ⟨hc', hf'⟩ := hb'.rule
             go_simp
             all_goals (try rfl))
      simp only [Act.put, List.setIfInBounds_toArray, List.set_cons_zero, List.set_cons_succ]
      try go_ints
      first
        | (apply Flow.pass rfl (by rfl))
        | (apply Flow.calmG _ rfl (by rfl)
           · intro w' hb'
             obtain ⟨hc', hf'⟩ := hb'.rule
             go_simp
             all_goals (try rfl))
      simp only [Act.put, List.setIfInBounds_toArray, List.set_cons_zero, List.set_cons_succ]
      try go_ints
      first
        | (apply Flow.pass rfl (by rfl))
        | (apply Flow.calmG _ rfl (by rfl)
           · intro w' hb'
             obtain ⟨hc', hf'⟩ := hb'.rule
             go_simp
             all_goals (try rfl))
      simp only [Act.put, List.setIfInBounds_toArray, List.set_cons_zero, List.set_cons_succ]
      try go_ints
      -- a guarded mover
      apply Flow.move rfl
      go_wp2_with fail
      first | refine ⟨fun _ => Bl.refl _, ?_⟩ | refine ⟨Bl.refl _, ?_⟩
      -- a guarded mover
      apply Flow.move rfl
      go_wp2_with fail
      first | refine ⟨fun _ => Bl.refl _, ?_⟩ | refine ⟨Bl.refl _, ?_⟩
      iterate 1
        apply Flow.calm2 _ _ rfl rfl
        · intro w' hb' K' hK'
          obtain ⟨hc', hf'⟩ := hb'.rule
          go_simp
          try go_ints
          exact hK'
        · intro K' hK'
          simp only [Act.put, List.setIfInBounds_toArray, List.set_cons_zero, List.set_cons_succ]
          exact hK'
      iterate 1
        apply Flow.asg _ rfl
        · intro K' hK'
          simp only [Act.put, Act.eval, List.setIfInBounds_toArray, List.set_cons_zero, List.set_cons_succ, arr_getD, List.getD_cons_zero, List.getD_cons_succ]
          exact hK'
      refine Flow.done ?_
      go_wp2_with fail
      go_ret
      exact ⟨by rw [HX.out] <;> rfl, Hb3.out.drew⟩
    | false =>
      have HX := Lib.hid (show RB = decide (vt ∈ wordsOf rt) by rw [HRB.out]; show (vt.isEmpty || _) = _; rw [Hte.out, Bool.false_or])
      go_upto_region 8 with fail
      refine wp_region_flow [(true, 0), (true, 1), (true, 2), (true, 3), (true, 4), (true, 5), (true, 7), (true, 8), (false, 6), (false, 9), (true, 10), (true, 11)] (fun _ => false) (by kernel_rfl) (by kernel_rfl) (by kernel_rfl) (by kernel_rfl) ?_
      iterate 1
        apply Flow.calm2 _ _ rfl rfl
        · intro w' hb' K' hK'
          obtain ⟨hc', hf'⟩ := hb'.rule
          go_simp
          try go_ints
          exact hK'
        · intro K' hK'
          simp only [Act.put, List.setIfInBounds_toArray, List.set_cons_zero, List.set_cons_succ]
          exact hK'
      iterate 1
        apply Flow.calm2 _ _ rfl rfl
        · intro w' hb' K' hK'
          obtain ⟨hc', hf'⟩ := hb'.rule
          go_simp
          try go_ints
          exact hK'
        · intro K' hK'
          simp only [Act.put, List.setIfInBounds_toArray, List.set_cons_zero, List.set_cons_succ]
          exact hK'
      iterate 1
        apply Flow.calm2 _ _ rfl rfl
        · intro w' hb' K' hK'
          obtain ⟨hc', hf'⟩ := hb'.rule
          go_simp
          try go_ints
          exact hK'
        · intro K' hK'
          simp only [Act.put, List.setIfInBounds_toArray, List.set_cons_zero, List.set_cons_succ]
          exact hK'
      iterate 1
        apply Flow.mv _ rfl
        · intro K' hK'
          simp only [Act.put, Act.eval, List.setIfInBounds_toArray, List.set_cons_zero, List.set_cons_succ, arr_getD, List.getD_cons_zero, List.getD_cons_succ]
          exact hK'
      first
        | (apply Flow.pass rfl (by rfl))
        | (apply Flow.calmG _ rfl (by rfl)
           · intro w' hb'
             obtain ⟨hc', hf'⟩ := hb'.rule
             go_simp
             all_goals (try rfl))
      simp only [Act.put, List.setIfInBounds_toArray, List.set_cons_zero, List.set_cons_succ]
      try go_ints
      first
        | (apply Flow.pass rfl (by rfl))
        | (apply Flow.calmG _ rfl (by rfl)
           · intro w' hb'
             obtain ⟨hc', hf'⟩ := hb'.rule
             go_simp
             all_goals (try rfl))
      simp only [Act.put, List.setIfInBounds_toArray, List.set_cons_zero, List.set_cons_succ]
      try go_ints
      first
        | (apply Flow.pass rfl (by rfl))
        | (apply Flow.calmG _ rfl (by rfl)
           · intro w' hb'
             obtain ⟨hc', hf'⟩ := hb'.rule
             go_simp
             all_goals (try rfl))
      simp only [Act.put, List.setIfInBounds_toArray, List.set_cons_zero, List.set_cons_succ]
      try go_ints
      first
        | (apply Flow.pass rfl (by rfl))
        | (apply Flow.calmG _ rfl (by rfl)
           · intro w' hb'
             obtain ⟨hc', hf'⟩ := hb'.rule
             go_simp
             all_goals (try rfl))
      simp only [Act.put, List.setIfInBounds_toArray, List.set_cons_zero, List.set_cons_succ]
      try go_ints
      -- a guarded mover
      apply Flow.move rfl
      go_wp2_with fail
      refine (splitS_any rt _ (by omega) (by exact HC3.out)).mono ?_
      rintro e w4 ⟨c4, rfl, hr4, hb4⟩
      have HB1 := hb4
      have hc4 := Lib.hid (fun wx (h : Bl w4 wx) => containsS_any _ c4 (wordsOf rt) vt wx (hr4.bl h) (by have := wordsOf_num rt; omega))
      go_wp2_with fail
      refine ⟨fun _ => (by first | exact HB1 | exact Bl.refl _), ?_⟩
      -- a guarded mover
      apply Flow.move rfl
      go_wp2_with fail
      refine (hc4.out _ (Bl.refl _)).mono ?_
      rintro e w5 ⟨rfl, rfl⟩
      go_wp2_with fail
      refine ⟨fun _ => (by first | exact HB2 | exact Bl.refl _), ?_⟩
      iterate 1
        apply Flow.calm2 _ _ rfl rfl
        · intro w' hb' K' hK'
          obtain ⟨hc', hf'⟩ := hb'.rule
          go_simp
          try go_ints
          exact hK'
        · intro K' hK'
          simp only [Act.put, List.setIfInBounds_toArray, List.set_cons_zero, List.set_cons_succ]
          exact hK'
      iterate 1
        apply Flow.asg _ rfl
        · intro K' hK'
          simp only [Act.put, Act.eval, List.setIfInBounds_toArray, List.set_cons_zero, List.set_cons_succ, arr_getD, List.getD_cons_zero, List.getD_cons_succ]
          exact hK'
      refine Flow.done ?_
      go_wp2_with fail
      go_ret
      exact ⟨by rw [HX.out] <;> rfl, Hb3.out.trans ((Bl.refl _).drew.trans HB1)⟩
  · have HX := Lib.hid (show RB = decide (vt = ot) by rw [HRB.out]; rfl)
    cases hc : (vt == ot) with
    | true =>
      have HX2 := Lib.hid (show RB = true by rw [HX.out]; simpa using hc)
      go_wp2_with fail
      go_ret
      exact ⟨by rw [HX2.out] <;> rfl, Hb3.out⟩
    | false =>
      have HX2 := Lib.hid (show RB = false by rw [HX.out]; simpa using hc)
      go_wp2_with fail
      go_ret
      exact ⟨by rw [HX2.out] <;> rfl, Hb3.out⟩
  · cases te with
    | true =>
      have HX := Lib.hid (show RB = true by rw [HRB.out]; show (vt.isEmpty || _) = true; rw [Hte.out]; rfl)
      go_wp2_with fail
      go_ret
      exact ⟨by rw [HX.out] <;> rfl, Hb3.out⟩
    | false =>
    cases oe with
    | true =>
      have HX := Lib.hid (show RB = true by rw [HRB.out]; show (vt.isEmpty || (ot.isEmpty || _)) = true; rw [Hoe.out]; cases vt.isEmpty <;> rfl)
      go_wp2_with fail
      go_ret
      exact ⟨by rw [HX.out] <;> rfl, Hb3.out⟩
    | false =>
    have HX := Lib.hid (show RB = (madeOf vt digits10 && (madeOf ot digits10 && decide (sumSg vt vt.length % 10 = digAt ot (ot.length - 1)))) by
      rw [HRB.out]; show (vt.isEmpty || (ot.isEmpty || _)) = _; rw [Hte.out, Hoe.out]; rfl)
    go_wp2_with fail
    go_loopw [7, 70] (fun s u wr => ∃ i : Nat, i ≤ vt.length ∧ s = .int .i64 (sumSg vt i : Int) ∧ u = .int .i64 i ∧ wr = w3) (fun _ u _ => vt.length - (RowKit.intOf u).toNat)
    case atStart => exact ⟨0, Nat.zero_le _, rfl, by first | rfl | trivial, by first | rfl | trivial⟩
    case round =>
      obtain ⟨i, hi, rfl, rfl, rfl⟩ := hrel
      by_cases hlt : i < vt.length
      · have hg : vt[i]? = some vt[i] := List.getElem?_eq_getElem hlt
        obtain ⟨b, hb⟩ : ∃ b, b = vt[i] := ⟨_, rfl⟩
        rw [← hb] at hg
        obtain ⟨h1, h2⟩ := bytes_at hg
        obtain ⟨e1, e2⟩ := digAt_wrap hg
        have hst : sumSg vt (i + 1) = sumSg vt i + digAt vt i := rfl
        have hle := sumSg_le vt i
        have hd9 := digAt_le vt i
        obtain ⟨s, hs⟩ : ∃ s, s = sumSg vt i := ⟨_, rfl⟩
        obtain ⟨d, hd⟩ : ∃ d, d = digAt vt i := ⟨_, rfl⟩
        rw [← hs] at hst hle ⊢
        rw [← hd] at hst hd9 e1 e2
        have HF := Lib.hid (show (s : Int) + (d : Int) = ((sumSg vt (i + 1) : Nat) : Int) by rw [hst]; omega)
        clear hg hb hs hd hst
        go_wp2_with fail
        exact ⟨⟨i + 1, hlt, by rw [← HF.out], by go_num, by first | rfl | trivial⟩, by simp [RowKit.intOf]; omega⟩
      · obtain rfl : i = vt.length := by omega
        have hle := sumSg_le vt vt.length
        obtain ⟨S, hS⟩ : ∃ s, s = sumSg vt vt.length := ⟨_, rfl⟩
        rw [← hS] at hle ⊢
        have HS := Lib.hid hS
        clear hS
        have hol : 0 < ot.length := by
          cases ot with
          | nil => exact absurd hoe (by decide)
          | cons => simp
        have hg : ot[ot.length - 1]? = some ot[ot.length - 1] := List.getElem?_eq_getElem (by omega)
        obtain ⟨b, hb⟩ : ∃ b, b = ot[ot.length - 1] := ⟨_, rfl⟩
        rw [← hb] at hg
        obtain ⟨e1, e2⟩ := digAt_wrap hg
        obtain ⟨ol, hol2⟩ : ∃ z, z = ot.length - 1 := ⟨_, rfl⟩
        rw [← hol2] at hg e1 e2
        have hoi : ((ot.length : Int) - 1) = (ol : Int) := by omega
        obtain ⟨h1, h2⟩ := bytes_at hg
        have hd9 := digAt_le ot ol
        have HO := Lib.hid hol2
        obtain ⟨d, hd⟩ : ∃ d, d = digAt ot ol := ⟨_, rfl⟩
        rw [← hd] at hd9 e1 e2
        have HD := Lib.hid hd
        have hdv := Lib.hid (fun wx => digsF_any vt wx (by omega))
        have hdo := Lib.hid (fun wx => digsF_any ot wx (by omega))
        clear hg hb hd hol2
        cases hma : madeOf vt digits10 with
        | false =>
          have HX2 := Lib.hid (show RB = false by rw [HX.out, hma]; rfl)
          rw [hma] at hdv
          go_wp2_with (go_at_call 77; refine (hdv.out _).mono ?_; rintro e w4 ⟨rfl, hb4⟩)
          go_ret
          exact ⟨by rw [HX2.out] <;> rfl, Hb3.out.trans hb4⟩
        | true =>
          rw [hma] at hdv
          cases hmo : madeOf ot digits10 with
          | false =>
            have HX2 := Lib.hid (show RB = false by rw [HX.out, hma, hmo]; rfl)
            rw [hmo] at hdo
            go_wp2_with (first | (go_at_call 77; refine (hdv.out _).mono ?_; rintro e w4 ⟨rfl, hb4⟩; have k2 := (BP.out.bl hb4).all4; have k3 := (BQ.out.bl hb4).all4) | (go_at_call 77; refine (hdo.out _).mono ?_; rintro e w5 ⟨rfl, hb5⟩; have k3 := (BQ.out.bl (hb4.trans hb5)).all4))
            go_ret
            exact ⟨by rw [HX2.out] <;> rfl, Hb3.out.trans (hb4.trans hb5)⟩
          | true =>
            rw [hmo] at hdo
            have HX2 := Lib.hid (show RB = decide ((S : Int) % 10 = (d : Int)) by rw [HX.out, hma, hmo, ← HS.out, ← HO.out, ← HD.out]; show decide _ = _; refine decide_eq_decide.2 ?_; omega)
            go_wp2_with (first | (go_at_call 77; refine (hdv.out _).mono ?_; rintro e w4 ⟨rfl, hb4⟩; have k2 := (BP.out.bl hb4).all4; have k3 := (BQ.out.bl hb4).all4) | (go_at_call 77; refine (hdo.out _).mono ?_; rintro e w5 ⟨rfl, hb5⟩; have k3 := (BQ.out.bl (hb4.trans hb5)).all4))
            go_ret
            exact ⟨by rw [HX2.out] <;> rfl, Hb3.out.trans (hb4.trans hb5)⟩
  · obtain ⟨n, hn⟩ : ∃ n, int2 rt = some n := Option.isSome_iff_exists.1 (h6 rfl)
    have HX := Lib.hid (show RB = decide ((vm.length : Int) = (n : Int)) by rw [HRB.out]; show decide (int2 rt = some vm.length) = _; rw [hn]; exact decide_eq_decide.2 ⟨fun h => by injection h with h; omega, fun h => by rw [show n = vm.length by omega]⟩)
    have hct := Lib.hid (fun wx hN => count_any ⟨rt.toArray⟩ wx (by rw [Lib.size_mk]; omega) hN)
    have Hn := Lib.hid hn
    clear hn
    go_upto_region 21 with fail
    go_wp2_with (go_at_call 78; refine (hct.out _ HN3.out).mono ?_; rintro e w4 ⟨v, rfl, hv, hb4⟩; have hvn := hv n Hn.out; have k2 := (BP.out.bl hb4).all4; subst hvn)
    go_ret
    exact ⟨by rw [HX.out] <;> rfl, Hb3.out.trans hb4⟩
end Go.Proofs.YtahfkahfaiidgaaGreatDoor


/-! forms.Rules: which rules values break. -/
namespace Go.Proofs.YtahfkahfaiidgaaGreatDoor
open Go.RowKit Go.Shelf

theorem info_broken : (Tryz.prog.info? 37).map (fun i => (i.zero, i.size, i.bytes)) = some (some (.agg #[.int .i64 0, .string ⟨#[]⟩]), 2, 24) := by kernel_rfl
theorem MapAt.same {w w' : World} {b : Nat} {ks : List (List UInt8)} (h : MapAt w b ks) (hb : w'.heap[b]? = w.heap[b]?) : MapAt w' b ks := by
  obtain ⟨es, c, h1, h2, h3⟩ := h
  exact ⟨es, c, hb.trans h1, h2, h3⟩
def rulesErr (f : Frm) (l : List Vlu) : Int := if f.err = 0 then vlusErr f.lf [] l else f.err
theorem own_snoc {w : World} {B : Nat} {e : TypeId} {v : Value} {x : Brk} {b : List Brk} (h : w.ownsRow B e 2 v (b.length + 1) (b.flatMap Brk.cells ++ x.cells)) : w.ownsRow B e 2 v (b ++ [x]).length ((b ++ [x]).flatMap Brk.cells) := by
  rw [List.length_append, List.flatMap_append, show [x].flatMap Brk.cells = x.cells by simp]
  exact h
/-- What forms.Rules answers: the rules that are broken, if nothing is wrong. -/
def RulesRes (E : Int) (b : List Brk) (e : Ending) (w' : World) : Prop := ∃ A n c, e = .returned (.tuple #[.slice A n c, .int .i64 E]) ∧ (E ≠ 0 → n = 0) ∧ (E = 0 → n = b.length ∧ Reads w' 2 A n (b.flatMap Brk.cells))
theorem rulesRes_err {E : Int} {b : List Brk} {w' : World} (h : E ≠ 0) : RulesRes E b (.returned (.tuple #[.slice none 0 0, .int .i64 E])) w' := ⟨none, 0, 0, rfl, fun _ => rfl, fun h0 => absurd h0 h⟩
set_option maxRecDepth 100000 in
set_option maxHeartbeats 8000000 in
theorem rules_any (f : Frm) (L : Option Addr) (c : Nat) (l : List Vlu) (w : World) (hF : FrmAt w f) (hL : VlusAt w L l) (_hlc : l.length ≤ c) (hln : l.length ≤ 9223372036854775807) (hS : f.small 1048576) (hT : ∀ v ∈ l, v.text.length ≤ 1048576) (hN : NumOk w) (hC : SplitOk w) :
    Calls Tryz.prog 5 #[f.val, .slice L l.length c] w fun e w' => RulesRes (rulesErr f l) (brokenL l f.lr f.lf) e w' ∧ Bl w w' := by
  have Hok := Lib.hid (fun (h : f.err = 0) => frm_ok h)
  obtain ⟨FE, hFE⟩ : ∃ y, y = f.err := ⟨_, rfl⟩
  obtain ⟨RE, hRE⟩ : ∃ y, y = rulesErr f l := ⟨_, rfl⟩
  have HRE := Lib.hid (show RE = if FE = 0 then vlusErr f.lf [] l else FE by rw [hRE, hFE]; rfl)
  rw [← hRE]
  have HFE := Lib.hid hFE
  clear hRE
  obtain ⟨nm, fW, fH, reach, dark, AL, ac, la, FL, fc, lf, RL, rc, lr⟩ := f
  show Calls _ _ _ w fun e w' => RulesRes RE (brokenL l lr lf) e w' ∧ Bl w w'
  replace HRE : Hid (RE = if FE = 0 then vlusErr lf [] l else FE) := HRE
  let w1 := (w).alloc (.cells #[.string ⟨nm.toArray⟩, .int .i64 fW, .int .i64 fH, .int .i64 reach, .int .i64 dark, .slice AL la.length ac, .slice FL lf.length fc, .slice RL lr.length rc] 26)
  have w1b : Bl w w1 := (Bl.refl w).alloc _
  have w11 : Blk w1 (w.heap.size) 26 #[.string ⟨nm.toArray⟩, .int .i64 fW, .int .i64 fH, .int .i64 reach, .int .i64 dark, .slice AL la.length ac, .slice FL lf.length fc, .slice RL lr.length rc] := by
    have h0 := Blk.new (w) 26 #[.string ⟨nm.toArray⟩, .int .i64 fW, .int .i64 fH, .int .i64 reach, .int .i64 dark, .slice AL la.length ac, .slice FL lf.length fc, .slice RL lr.length rc]
    exact h0
  have hck := fun wx hF hN hC => checkF_any ⟨nm, fW, fH, reach, dark, AL, ac, la, FL, fc, lf, RL, rc, lr⟩ wx hF hS hN hC
  have hcv := fun (w0 : World) (v : Vlu) (gm : Nat) ks wx hb0 hg hF hV hvl hM => checkValue_any w0 ⟨nm, fW, fH, reach, dark, AL, ac, la, FL, fc, lf, RL, rc, lr⟩ v gm ks wx hb0 hg hF hV hvl hM
  rw [← hFE] at hck
  unfold Frm.val at hck hcv
  have HF := Lib.hid (hF.bl w1b); have HL := Lib.hid (hL.bl w1b); have HN := Lib.hid (hN.bl w1b); have HC := Lib.hid (hC.bl w1b)
  have Hck := Lib.hid hck; have Hcv := Lib.hid hcv; have HT := Lib.hid hT; have HS := Lib.hid hS
  have k1 := w11.all8
  have HW1b := Lib.hid w1b
  unfold Frm.val
  clear hF hL hN hC hck hcv hFE hT hS w1b
  have hmm := @run_makeMap Tryz.prog
  go_enter Tryz.func5, Tryz.ntmps5
  go_upto_region 1 with fail
  rw [show w.alloc (.cells #[.string ⟨nm.toArray⟩, .int .i64 fW, .int .i64 fH, .int .i64 reach, .int .i64 dark, .slice AL la.length ac, .slice FL lf.length fc, .slice RL lr.length rc] 26) = w1 from rfl]
  clear_value w1
  go_upto_region 2 with (go_at_call 15; refine (Hck.out _ HF.out HN.out HC.out).mono ?_; rintro e w2 ⟨rfl, hb2⟩)
  have Hb2 := Lib.hid hb2
  have k1 := (w11.bl hb2).all8
  by_cases hz : FE ≠ 0
  · have hq : (FE != 0) = true := by simp [hz]
    have HX := Lib.hid (show RE = FE by rw [HRE.out, if_neg hz])
    have Hz := Lib.hid hz
    clear hz hb2
    go_wp2_with fail
    go_ret2
    exact ⟨by rw [HX.out]; exact rulesRes_err Hz.out, HW1b.out.trans Hb2.out⟩
  obtain rfl : FE = 0 := Classical.not_not.1 hz
  have HRE2 := Lib.hid (show RE = vlusErr lf [] l by rw [HRE.out, if_pos rfl])
  have Hok2 := Lib.hid (Hok.out HFE.out.symm)
  clear hb2 HRE Hok HFE hz
  go_upto_region 5 with fail
  obtain ⟨w3, hw3⟩ : ∃ y, y = (w2.alloc (.map #[] 0)).alloc (.map #[] 0) := ⟨_, rfl⟩
  have hb3 : Bl w2 w3 := by rw [hw3]; exact ((Bl.refl _).alloc _).alloc _
  have hgk : MapAt w3 w2.heap.size [] := by rw [hw3]; exact (MapAt.new w2).bl ((Bl.refl _).alloc _)
  have hgv : MapV w3 (w2.heap.size + 1) [] := by
    rw [hw3]
    have h := MapV.new (w2.alloc (.map #[] 0))
    rwa [World.size_alloc] at h
  rw [← hw3]
  clear hmm
  have HK0 := Lib.hid hgk; have HV0 := Lib.hid hgv; have Hb3 := Lib.hid hb3
  have hs3 : w2.heap.size + 1 < w3.heap.size := by obtain ⟨es, ck, h1, -, -⟩ := hgv; exact (Array.getElem?_eq_some_iff.1 h1).1
  have Hs3 := Lib.hid hs3
  clear hw3 hb3 hgk hgv hs3 k1
  go_wp2_with fail
  go_loopw [26] (fun u wr => ∃ i : Nat, i ≤ l.length ∧ u = .int .i64 i ∧ Bl w2 wr ∧ MapAt wr w2.heap.size ((l.take i).map Vlu.field) ∧ MapV wr (w2.heap.size + 1) (l.take i) ∧ vlusErr lf ((l.take i).map Vlu.field) (l.drop i) = vlusErr lf [] l) (fun u _ => l.length - (RowKit.intOf u).toNat)
  case atStart => exact ⟨0, Nat.zero_le _, rfl, Hb3.out, HK0.out, HV0.out, rfl⟩
  case round =>
    obtain ⟨i, hi, rfl, hbr, hmk, hmv, hes⟩ := hrel
    have k1 := (w11.bl (Hb2.out.trans hbr)).all8
    by_cases hlt : i < l.length
    · have hg : l[i]? = some l[i] := List.getElem?_eq_getElem hlt
      obtain ⟨v, hv⟩ : ∃ x, x = l[i] := ⟨_, rfl⟩
      rw [← hv] at hg
      obtain ⟨VE, hVE⟩ : ∃ e, e = vluErr lf (decide (v.field ∈ (l.take i).map Vlu.field)) v := ⟨_, rfl⟩
      have hst : vlusErr lf [] l = if VE = 0 then vlusErr lf ((l.take (i + 1)).map Vlu.field) (l.drop (i + 1)) else VE := by rw [← hes, vlusErr_from hg, hVE]
      obtain ⟨ad, eA, j1, j2, j3, j4⟩ := ((HL.out.bl (Hb2.out.trans hbr))).at_ hg
      subst eA
      have Hst := Lib.hid hst; have HVE := Lib.hid hVE; have Hbr := Lib.hid hbr; have Hmk := Lib.hid hmk; have Hmv := Lib.hid hmv; have HG := Lib.hid hg
      clear hg hv hes hVE hst hbr hmk hmv
      go_upto_region 8 with fail
      obtain ⟨w5, hw5⟩ : ∃ x, x = wr.alloc (.cells #[.string ⟨v.field.toArray⟩, .string ⟨v.text.toArray⟩, .slice v.M v.marks.length v.mc, .int .i64 v.sure] 73) := ⟨_, rfl⟩
      have b5 : Blk w5 wr.heap.size 73 #[.string ⟨v.field.toArray⟩, .string ⟨v.text.toArray⟩, .slice v.M v.marks.length v.mc, .int .i64 v.sure] := by rw [hw5]; exact Blk.new _ _ _
      have hb5 : Bl wr w5 := by rw [hw5]; exact (Bl.refl _).alloc _
      rw [← hw5]
      have B5 := Lib.hid b5; have Hb5 := Lib.hid (Hbr.out.trans hb5); have Hbr5 := Lib.hid hb5
      have k1 := (w11.bl (Hb2.out.trans Hb5.out)).all8
      have k2 := b5.all4
      have hVs := HL.out.2 v (List.mem_of_getElem? HG.out)
      have hcall := Hcv.out w2 v w2.heap.size ((l.take i).map Vlu.field) w5 Hb5.out (Nat.le_refl _) (HF.out.bl Hb2.out) (hVs.1.bl Hb2.out) hVs.2.2.2 (Hmk.out.bl hb5)
      rw [← HVE.out] at hcall
      unfold Vlu.val at hcall
      have Hcall := Lib.hid hcall
      clear hw5 b5 hb5 j1 j2 j3 j4 hVs hcall
      go_upto_region 9 with (go_at_call 27; refine Hcall.out.mono ?_; rintro e w6 ⟨rfl, hp6⟩)
      obtain ⟨hp1, hp2, hp3⟩ := hp6
      have Hp1 := Lib.hid hp1; have Hb6 := Lib.hid hp2; have Hp3 := Lib.hid hp3
      have hle5 := Hb5.out.le
      have b6 : Blk w6 wr.heap.size 73 #[.string ⟨v.field.toArray⟩, .string ⟨v.text.toArray⟩, .slice v.M v.marks.length v.mc, .int .i64 v.sure] := by
        have h1 := B5.out.lt
        have h2 := Hbr.out.le
        have h3 : w2.heap.size + 1 < wr.heap.size := by obtain ⟨es, ck, h1, -, -⟩ := Hmv.out; exact (Array.getElem?_eq_some_iff.1 h1).1
        exact (Hp3.out _ h1 (by omega)).trans B5.out
      have hv6 : MapV w6 (w2.heap.size + 1) (l.take i) := by
        have h3 : w2.heap.size + 1 < wr.heap.size := by obtain ⟨es, ck, h1, -, -⟩ := Hmv.out; exact (Array.getElem?_eq_some_iff.1 h1).1
        exact (Hmv.out.bl Hbr5.out).same (Hp3.out _ (by have := Hbr5.out.le; omega) (by omega))
      have B6 := Lib.hid b6; have Hv6 := Lib.hid hv6
      have k1 := (w11.bl (Hb2.out.trans Hb6.out)).all8
      have k2 := b6.all4
      clear hp1 hp2 hp3 b6 hv6
      by_cases hz : VE = 0
      · have hq : (VE != 0) = false := by simp [hz]
        have hmk6 := Hp1.out hz
        have hnew : v.field ∉ (l.take i).map Vlu.field := by
          have h := HVE.out.symm.trans hz
          have := vluErr_twice h
          simpa using this
        obtain ⟨w7, hup, hv7, hbb7, hk7⟩ := Hv6.out.update v hnew
        unfold Vlu.val at hup
        have HX := Lib.hid (show vlusErr lf ((l.take (i + 1)).map Vlu.field) (l.drop (i + 1)) = vlusErr lf [] l by rw [Hst.out, if_pos hz])
        have Hmk7 := Lib.hid (show MapAt w7 w2.heap.size ((l.take (i + 1)).map Vlu.field) by
          have h := hmk6.same (hk7 w2.heap.size (by omega))
          rw [take_snoc HG.out, List.map_append]
          exact h)
        have Hv7 := Lib.hid (show MapV w7 (w2.heap.size + 1) (l.take (i + 1)) by rw [take_snoc HG.out]; exact hv7)
        have Hb7 := Lib.hid (hbb7 w2 Hb6.out (by omega))
        clear hz hmk6 hnew hv7 hbb7 hk7
        go_wp2_with fail
        exact ⟨⟨i + 1, hlt, by go_num, Hb7.out, Hmk7.out, Hv7.out, HX.out⟩, by simp [RowKit.intOf]; omega⟩
      · have hq : (VE != 0) = true := by simp [hz]
        have HX := Lib.hid (show RE = VE by rw [HRE2.out, Hst.out, if_neg hz])
        have Hz := Lib.hid hz
        clear hz
        go_wp2_with fail
        go_ret2
        exact ⟨by rw [HX.out]; exact rulesRes_err Hz.out, HW1b.out.trans (Hb2.out.trans Hb6.out)⟩
    · obtain rfl : i = l.length := by omega
      rw [List.take_length] at hmk hmv
      have HRE3 := Lib.hid (show RE = 0 by rw [HRE2.out, ← hes, List.drop_length]; rfl)
      have Hbr := Lib.hid (Hb2.out.trans hbr); have Hmv := Lib.hid hmv
      have hS : ∀ v ∈ l, v.text.length ≤ 1048576 ∧ v.marks.length ≤ 9223372036854775807 := fun v hv => ⟨HT.out v hv, (HL.out.2 v hv).2.2.2⟩
      have hho := fun (r : Rul) wx hM hr h6 h3 hN hC => holds_any r l (w2.heap.size + 1) wx hM hS hr h6 h3 hN hC
      have Hho := Lib.hid hho
      have hlr : lr.length ≤ 50 := Hok2.out.2.1
      have hlf : lf.length ≤ 50 := Hok2.out.1
      clear hes hmk hmv hbr hS hho
      go_wp2_with fail
      go_loopw [12, 45] (fun b u wy => ∃ i : Nat, i ≤ lr.length ∧ u = .int .i64 i ∧ Bl wr wy ∧ wy.ownsRow wr.heap.size 37 2 b (brokenR l lr i).length ((brokenR l lr i).flatMap Brk.cells)) (fun _ u _ => lr.length - (RowKit.intOf u).toNat)
      case atStart => exact ⟨0, Nat.zero_le _, rfl, Bl.refl _, World.ownsRow_nil _ _ _ _⟩
      case round =>
        clear k1
        rename World => wy
        obtain ⟨i, hi, rfl, hby, hown⟩ := hrel
        have k1 := (w11.bl (Hbr.out.trans hby)).all8
        by_cases hlt : i < lr.length
        · have hg : lr[i]? = some lr[i] := List.getElem?_eq_getElem hlt
          obtain ⟨r, hr⟩ : ∃ x, x = lr[i] := ⟨_, rfl⟩
          rw [← hr] at hg
          obtain ⟨ad, eA, j1, j2, j3, j4⟩ := (HF.out.ruls.bl (Hbr.out.trans hby)).at_ hg
          simp only at eA
          subst eA
          have hok := rulErr_ok (Hok2.out.2.2.1 r (List.mem_of_getElem? hg))
          have hsm := HS.out r (List.mem_of_getElem? hg)
          have Hok3 := Lib.hid hok; have Hsm := Lib.hid hsm
          have Hby := Lib.hid hby; have HOw := Lib.hid hown; have HG := Lib.hid hg
          clear hg hr hby hown hok hsm
          go_upto_region 17 with fail
          obtain ⟨w8, hw8⟩ : ∃ x, x = wy.alloc (.cells #[.int .i64 r.kind, .string ⟨r.field.toArray⟩, .string ⟨r.other.toArray⟩, .string ⟨r.text.toArray⟩] 76) := ⟨_, rfl⟩
          have b8 : Blk w8 wy.heap.size 76 #[.int .i64 r.kind, .string ⟨r.field.toArray⟩, .string ⟨r.other.toArray⟩, .string ⟨r.text.toArray⟩] := by rw [hw8]; exact Blk.new _ _ _
          have hb8 : Bl wy w8 := by rw [hw8]; exact (Bl.refl _).alloc _
          rw [← hw8]
          have B8 := Lib.hid b8; have Hb8 := Lib.hid (Hby.out.trans hb8); have Hby8 := Lib.hid hb8
          have k1 := (w11.bl (Hbr.out.trans Hb8.out)).all8
          have k2 := b8.all4
          have hcall := Hho.out r w8 (Hmv.out.bl Hb8.out) Hok3.out.1 Hok3.out.2 Hsm.out (HN.out.bl (Hbr.out.trans Hb8.out)) (HC.out.bl (Hbr.out.trans Hb8.out))
          unfold Rul.val at hcall
          obtain ⟨hb, hhb⟩ : ∃ b, holdsB r (vluOf l r.field) (vluOf l r.other) = b := ⟨_, rfl⟩
          rw [hhb] at hcall
          have Hcall := Lib.hid hcall; have Hhb := Lib.hid hhb
          clear hw8 b8 hb8 j1 j2 j3 j4 hcall hhb
          cases hb with
          | true =>
            have HX := Lib.hid (brokenR_keep HG.out Hhb.out)
            go_wp2_with (go_at_call 28; refine Hcall.out.mono ?_; rintro e w9 ⟨rfl, hb9⟩; have Hb9 := Lib.hid (Hb8.out.trans hb9); have Hby9 := Lib.hid (Hby8.out.trans hb9); clear hb9)
            exact ⟨⟨i + 1, hlt, by go_num, Hb9.out, by rw [HX.out]; exact own_bl HOw.out Hby9.out⟩, by simp [RowKit.intOf]; omega⟩
          | false =>
            have HX := Lib.hid (brokenR_more HG.out Hhb.out)
            have hlen := brokenR_len l lr i
            go_upto_region 18 with (go_at_call 28; refine Hcall.out.mono ?_; rintro e w9 ⟨rfl, hb9⟩; have Hb9 := Lib.hid (Hb8.out.trans hb9); have Hby9 := Lib.hid (Hby8.out.trans hb9); have k2 := (B8.out.bl hb9).all4; clear hb9)
            have HO9 := Lib.hid (own_bl HOw.out Hby9.out)
            have hle9 := Hb9.out.le
            go_wp2_with (at_builtin; refine wpList_append_bl (w1 := wr) rfl (.tmp 54) (.tmp 59) 28 rfl 37 (.agg #[.int .i64 0, .string ⟨#[]⟩]) 2 24 Tryz.underlying28 info_broken rfl (by omega) wr.heap.size _ (brokenR l lr i).length ((brokenR l lr i).flatMap Brk.cells) rfl (Hb9.out.alloc _) (Nat.le_refl _) (by simp; omega) (HO9.out.alloc _) (some ⟨w9.heap.size, 0, none⟩) 1 1 [.int .i64 i, .string ⟨r.field.toArray⟩] rfl ((Blk.new w9 _ _).reads 1 2 rfl) (by simp [Value.oneCell']) (by unfold maxLen; omega) (by omega) ?_; intro v' w10 hown8 hb8 hg8; have HOw8 := Lib.hid hown8; have Hb10 := Lib.hid hb8; clear hown8 hb8 hg8)
            exact ⟨⟨i + 1, hlt, by go_num, Hb10.out, by rw [HX.out]; exact own_snoc HOw8.out⟩, by simp [RowKit.intOf]; omega⟩
        · obtain rfl : i = lr.length := by omega
          have Hby := Lib.hid hby; have HOw := Lib.hid hown
          obtain ⟨bR, hbR⟩ : ∃ b, b = brokenR l lr lr.length := ⟨_, rfl⟩
          rw [← hbR] at HOw
          have hlen : bR.length ≤ 50 := by rw [hbR]; have := brokenR_len l lr lr.length; omega
          have HbR := Lib.hid hbR
          have hrl : ¬ (9223372036854775807 < lr.length + lf.length) := by omega
          clear hby hown hbR
          go_wp2_with fail
          go_loopw [12, 65] (fun b u wz => ∃ i : Nat, i ≤ lf.length ∧ u = .int .i64 i ∧ Bl wr wz ∧ wz.ownsRow wr.heap.size 37 2 b (bR ++ brokenF l lr.length lf i).length ((bR ++ brokenF l lr.length lf i).flatMap Brk.cells)) (fun _ u _ => lf.length - (RowKit.intOf u).toNat)
          case atStart => exact ⟨0, Nat.zero_le _, rfl, Hby.out, by rw [show brokenF l lr.length lf 0 = [] from rfl, List.append_nil]; exact HOw.out⟩
          case round =>
            clear k1
            rename World => wz
            obtain ⟨i, hi, rfl, hbz, hown⟩ := hrel
            have k1 := (w11.bl (Hbr.out.trans hbz)).all8
            by_cases hlt : i < lf.length
            · have hg : lf[i]? = some lf[i] := List.getElem?_eq_getElem hlt
              obtain ⟨x, hx⟩ : ∃ x, x = lf[i] := ⟨_, rfl⟩
              rw [← hx] at hg
              obtain ⟨ad, eA, j1, j2, j3, j4, j5, j6, j7, j8, j9⟩ := (HF.out.flds.bl (Hbr.out.trans hbz)).at_ hg
              simp only at eA
              subst eA
              have Hbz := Lib.hid hbz; have HOz := Lib.hid hown; have HG := Lib.hid hg
              clear hg hx hbz hown
              go_upto_region 23 with fail
              obtain ⟨w8, hw8⟩ : ∃ y, y = wz.alloc (.cells #[.string ⟨x.name.toArray⟩, .int .i64 x.kind, .int .i64 x.box.X, .int .i64 x.box.Y, .int .i64 x.box.W, .int .i64 x.box.H, .slice x.M x.marks.length x.mc, .int .i64 x.most, .bool x.needed] 82) := ⟨_, rfl⟩
              have b8 : Blk w8 wz.heap.size 82 #[.string ⟨x.name.toArray⟩, .int .i64 x.kind, .int .i64 x.box.X, .int .i64 x.box.Y, .int .i64 x.box.W, .int .i64 x.box.H, .slice x.M x.marks.length x.mc, .int .i64 x.most, .bool x.needed] := by rw [hw8]; exact Blk.new _ _ _
              have hb8 : Bl wz w8 := by rw [hw8]; exact (Bl.refl _).alloc _
              rw [← hw8]
              have B8 := Lib.hid b8; have Hb8 := Lib.hid (Hbz.out.trans hb8); have Hbz8 := Lib.hid hb8
              have k1 := (w11.bl (Hbr.out.trans Hb8.out)).all8
              have k2 := b8.all9
              have hcall := Hho.out ⟨1, x.name, [], []⟩ w8 (Hmv.out.bl Hb8.out) (show inB 1 1 6 = true by decide) (fun h => absurd (show (1 : Int) = 6 from h) (by decide)) (Nat.zero_le _) (HN.out.bl (Hbr.out.trans Hb8.out)) (HC.out.bl (Hbr.out.trans Hb8.out))
              unfold Rul.val at hcall
              rw [needed_empty] at hcall
              obtain ⟨hb, hhb⟩ : ∃ b, emptyB (vluOf l x.name) = b := ⟨_, rfl⟩
              obtain ⟨nd, hnd⟩ : ∃ b, b = x.needed := ⟨_, rfl⟩
              rw [hhb] at hcall
              have Hcall := Lib.hid hcall; have Hhb := Lib.hid hhb; have Hnd := Lib.hid hnd
              rw [← hnd] at k2
              clear hw8 b8 hb8 j1 j2 j3 j4 j5 j6 j7 j8 j9 hcall hhb hnd
              cases nd with
              | false =>
                have HX := Lib.hid (brokenF_keep (vs := l) (n := lr.length) HG.out (by rw [← Hnd.out]; rfl))
                go_wp2_with fail
                exact ⟨⟨i + 1, hlt, by go_num, Hb8.out, by rw [HX.out]; exact own_bl HOz.out Hbz8.out⟩, by simp [RowKit.intOf]; omega⟩
              | true =>
                cases hb with
                | false =>
                  have HX := Lib.hid (brokenF_keep (vs := l) (n := lr.length) HG.out (by rw [Hhb.out, Bool.and_false]))
                  go_wp2_with (go_at_call 28; refine Hcall.out.mono ?_; rintro e w9 ⟨rfl, hb9⟩; have Hb9 := Lib.hid (Hb8.out.trans hb9); have Hby9 := Lib.hid (Hbz8.out.trans hb9); clear hb9)
                  exact ⟨⟨i + 1, hlt, by go_num, Hb9.out, by rw [HX.out]; exact own_bl HOz.out Hby9.out⟩, by simp [RowKit.intOf]; omega⟩
                | true =>
                  have HX := Lib.hid (brokenF_more (vs := l) (n := lr.length) HG.out (by rw [Hhb.out, ← Hnd.out]; rfl))
                  have hlen2 := brokenF_len l lr.length lf i
                  go_upto_region 24 with (go_at_call 28; refine Hcall.out.mono ?_; rintro e w9 ⟨rfl, hb9⟩; have Hb9 := Lib.hid (Hb8.out.trans hb9); have Hby9 := Lib.hid (Hbz8.out.trans hb9); have k2 := (B8.out.bl hb9).all9; have k1 := (w11.bl (Hbr.out.trans Hb9.out)).all8; clear hb9)
                  have HO9 := Lib.hid (own_bl HOz.out Hby9.out)
                  have hle9 := Hb9.out.le
                  have hsb : (lr.length : Int) + (i : Int) ≤ 200 := by omega
                  have hln2 : (bR ++ brokenF l lr.length lf i).length ≤ 100 := by rw [List.length_append]; omega
                  go_wp2_with (at_builtin; refine wpList_append_bl (w1 := wr) rfl (.tmp 80) (.tmp 89) 28 rfl 37 (.agg #[.int .i64 0, .string ⟨#[]⟩]) 2 24 Tryz.underlying28 info_broken rfl (by omega) wr.heap.size _ (bR ++ brokenF l lr.length lf i).length ((bR ++ brokenF l lr.length lf i).flatMap Brk.cells) rfl (Hb9.out.alloc _) (Nat.le_refl _) (by simp; omega) (HO9.out.alloc _) (some ⟨w9.heap.size, 0, none⟩) 1 1 [.int .i64 ((lr.length : Int) + (i : Int)), .string ⟨x.name.toArray⟩] rfl ((Blk.new w9 _ _).reads 1 2 rfl) (by simp [Value.oneCell']) (by unfold maxLen; omega) (by omega) ?_; intro v' w10 hown8 hb8 hg8; have HOw8 := Lib.hid hown8; have Hb10 := Lib.hid hb8; clear hown8 hb8 hg8)
                  exact ⟨⟨i + 1, hlt, by go_num, Hb10.out, by rw [HX.out, ← List.append_assoc]; refine own_snoc ?_; show World.ownsRow _ _ _ _ _ _ (_ ++ [.int .i64 ((lr.length + i : Nat) : Int), _]); rw [Int.natCast_add]; exact HOw8.out⟩, by simp [RowKit.intOf]; omega⟩
            · obtain rfl : i = lf.length := by omega
              obtain ⟨A, c', rfl, hr, -⟩ := own_new hown
              have HR := Lib.hid hr; have Hbz := Lib.hid hbz
              have HBL := Lib.hid (show brokenL l lr lf = bR ++ brokenF l lr.length lf lf.length by rw [HbR.out]; rfl)
              clear hown hr hbz
              go_wp2_with fail
              go_ret2
              exact ⟨by rw [HRE3.out]; exact ⟨A, _, c', rfl, fun h => absurd rfl h, fun _ => by rw [HBL.out]; exact ⟨rfl, HR.out⟩⟩, HW1b.out.trans (Hbr.out.trans Hbz.out)⟩
end Go.Proofs.YtahfkahfaiidgaaGreatDoor
