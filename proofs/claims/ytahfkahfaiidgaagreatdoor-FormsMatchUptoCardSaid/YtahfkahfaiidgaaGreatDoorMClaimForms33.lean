/- bedref2.OffsetOf. -/
import Derived.Test.YtahfkahfaiidgaaGreatDoorMClaimForms20
import Derived.Test.YtahfkahfaiidgaaGreatDoorMClaimForms2
import Derived.Test.YtahfkahfaiidgaaGreatDoorMClaimForms3
import Derived.Test.YtahfkahfaiidgaaGreatDoorMClaimForms27
import Derived.Test.YtahfkahfaiidgaaGreatDoorMClaimForms13

namespace Go.Proofs.YtahfkahfaiidgaaGreatDoor
open Go.RowKit Go.Shelf

theorem info_int8 : (Tryz.prog.info? 3).map (fun i => (i.zero, i.size, i.bytes)) = some (some (.int .i64 0), 1, 8) := by kernel_rfl
theorem fnd_at2 {f : Frm} {cs : List Bool} {w : World} {A : Option Addr} {i : Nat} {a : Anc} (h : Reads w 3 A f.la.length (f.la.flatMap (fndCells f cs))) (hi : f.la[i]? = some a) : ∃ ad, A = some ad ∧ w.cell? (ad.add (i * 3)) = some (.int .i64 (foundA f cs a).1) ∧ w.cell? ⟨(ad.add (i * 3)).block, (ad.add (i * 3)).off + 1, none⟩ = some (.int .i64 (foundA f cs a).2.1) ∧
    w.cell? ⟨(ad.add (i * 3)).block, (ad.add (i * 3)).off + 2, none⟩ = some (.int .i64 (foundA f cs a).2.2) := by
  obtain ⟨ad, e, key⟩ := reads_flat (fndCells f cs) 3 (fun _ => rfl) h hi
  have k0 := key 0 _ (by omega) rfl
  have k1 := key 1 _ (by omega) rfl
  have k2 := key 2 _ (by omega) rfl
  rw [Addr.add_zero'] at k0
  rw [Addr.add_succ'] at k1 k2
  exact ⟨ad, e, k0, k1, k2⟩
theorem take_map {α β : Type} (f : α → β) {l : List α} {i : Nat} {a : α} (h : l[i]? = some a) : (l.map f).take (i + 1) = (l.map f).take i ++ [f a] := by
  refine take_snoc ?_
  rw [List.getElem?_map, h]
  rfl
theorem cell_same {w w' : World} {g : Nat} (h : w'.heap[g]? = w.heap[g]?) (j : Nat) : w'.cell? ⟨g, j, none⟩ = w.cell? ⟨g, j, none⟩ := by simp only [World.cell?, h]
theorem reads_same {w w' : World} {g n : Nat} {xs : List Value} (h : Reads w 1 (some ⟨g, 0, none⟩) n xs) (hb : w'.heap[g]? = w.heap[g]?) : Reads w' 1 (some ⟨g, 0, none⟩) n xs := by
  refine ⟨h.1, fun hk => ?_⟩
  obtain ⟨ad, e, hc⟩ := h.2 hk
  obtain rfl := Option.some.inj e
  refine ⟨_, rfl, fun j u hu => ?_⟩
  have := hc j u hu
  rw [Addr.add_lit] at this ⊢
  rw [cell_same hb]
  exact this
theorem own_same {w w' : World} {B g n cap : Nat} {T : TypeId} {xs : List Value} (h : w.ownsRow B T 1 (.slice (some ⟨g, 0, none⟩) n cap) n xs) (hb : w'.heap[g]? = w.heap[g]?) : w'.ownsRow B T 1 (.slice (some ⟨g, 0, none⟩) n cap) n xs := by
  refine ⟨h.1, ?_⟩
  rcases h.2 with ⟨h1, -⟩ | ⟨g', cap', cur, e, r1, r2, r3⟩
  · cases h1
  · injection e with e1 e2 e3
    obtain rfl : g = g' := by injection e1 with e1; injection e1
    exact .inr ⟨g, cap', cur, by rw [e3], r1, hb.trans r2, r3⟩
/-- What the middle of a sorted row reads. -/
theorem med_cell {w : World} {g : Nat} {l : List Int} (h : 0 < l.length) (hr : Reads w 1 (some ⟨g, 0, none⟩) l.length ((sortI l).map (.int .i64))) : w.cell? ⟨g, (l.length - 1) / 2, none⟩ = some (.int .i64 (medI l)) := by
  obtain ⟨ad, e, hc⟩ := hr.2 h
  obtain rfl := Option.some.inj e
  have := hc ((l.length - 1) / 2) (.int .i64 (medI l)) (by rw [List.getElem?_map, medI_at h]; rfl)
  rw [Addr.add_lit, Nat.zero_add] at this
  exact this
set_option maxRecDepth 100000 in
set_option maxHeartbeats 4000000 in
theorem offset_any (f : Frm) (C : Option Addr) (cc : Nat) (cs : List Bool) (W H r : Nat) (w : World) (hfit : Fits f W H r) (hF : FrmAt w f) (hC : Reads w 1 C (W * H) (cs.map .bool)) :
    Calls Tryz.prog 52 #[f.val, .agg #[.int .i64 W, .int .i64 H, .slice C (W * H) cc]] w fun e w' => e = .returned (.agg #[.int .i64 (medI (offX f cs)), .int .i64 (medI (offY f cs))]) ∧ Bl w w' := by
  have han := fun wx hF hC => anchors_any f C cc cs W H r wx hfit hF hC
  have hl10 : f.la.length ≤ 10 := hfit.hla
  have hbx := offX_bd (cs := cs) hfit
  have hby := offY_bd (cs := cs) hfit
  obtain ⟨XS, hXS⟩ : ∃ x, x = offX f cs := ⟨_, rfl⟩
  obtain ⟨YS, hYS⟩ : ∃ x, x = offY f cs := ⟨_, rfl⟩
  rw [← hXS] at hbx
  rw [← hYS] at hby
  rw [← hXS, ← hYS]
  have hXl : XS.length = f.la.length := by rw [hXS]; simp [offX]
  have hYl : YS.length = f.la.length := by rw [hYS]; simp [offY]
  have HFn := Lib.hid (fun (wx : World) (A : Option Addr) (i : Nat) (a : Anc) (h : Reads wx 3 A f.la.length (f.la.flatMap (fndCells f cs))) (hi : f.la[i]? = some a) => fnd_at2 h hi)
  have HXt := Lib.hid (fun (i : Nat) (a : Anc) (hi : f.la[i]? = some a) => show XS.take (i + 1) = XS.take i ++ [(foundA f cs a).1] by rw [hXS]; exact take_map _ hi)
  have HYt := Lib.hid (fun (i : Nat) (a : Anc) (hi : f.la[i]? = some a) => show YS.take (i + 1) = YS.take i ++ [(foundA f cs a).2.1] by rw [hYS]; exact take_map _ hi)
  obtain ⟨nm, fW, fH, reach, dark, AL, ac, la, FL, fc, lf, RL, rc, lr⟩ := f
  simp only at hl10 hXl hYl
  let w1 := (((w).alloc (.cells #[.string ⟨nm.toArray⟩, .int .i64 fW, .int .i64 fH, .int .i64 reach, .int .i64 dark, .slice AL la.length ac, .slice FL lf.length fc, .slice RL lr.length rc] 26)).alloc (.cells #[.int .i64 W, .int .i64 H, .slice C (W * H) cc] 42)).alloc (.cells #[.int .i64 0, .int .i64 0] 47)
  have w1b : Bl w w1 := (((Bl.refl w).alloc _).alloc _).alloc _
  have w11 : Blk w1 (w.heap.size) 26 #[.string ⟨nm.toArray⟩, .int .i64 fW, .int .i64 fH, .int .i64 reach, .int .i64 dark, .slice AL la.length ac, .slice FL lf.length fc, .slice RL lr.length rc] := by
    have h0 := Blk.new (w) 26 #[.string ⟨nm.toArray⟩, .int .i64 fW, .int .i64 fH, .int .i64 reach, .int .i64 dark, .slice AL la.length ac, .slice FL lf.length fc, .slice RL lr.length rc]
    exact ((h0.alloc _).alloc _)
  have w12 : Blk w1 (w.heap.size + 1) 42 #[.int .i64 W, .int .i64 H, .slice C (W * H) cc] := by
    have h0 := Blk.new ((w).alloc (.cells #[.string ⟨nm.toArray⟩, .int .i64 fW, .int .i64 fH, .int .i64 reach, .int .i64 dark, .slice AL la.length ac, .slice FL lf.length fc, .slice RL lr.length rc] 26)) 42 #[.int .i64 W, .int .i64 H, .slice C (W * H) cc]
    simp only [World.size_alloc] at h0
    exact (h0.alloc _)
  have w13 : Blk w1 (w.heap.size + 1 + 1) 47 #[.int .i64 0, .int .i64 0] := by
    have h0 := Blk.new (((w).alloc (.cells #[.string ⟨nm.toArray⟩, .int .i64 fW, .int .i64 fH, .int .i64 reach, .int .i64 dark, .slice AL la.length ac, .slice FL lf.length fc, .slice RL lr.length rc] 26)).alloc (.cells #[.int .i64 W, .int .i64 H, .slice C (W * H) cc] 42)) 47 #[.int .i64 0, .int .i64 0]
    simp only [World.size_alloc] at h0
    exact h0
  obtain ⟨FC, hFC⟩ : ∃ o, o = fndCells ⟨nm, fW, fH, reach, dark, AL, ac, la, FL, fc, lf, RL, rc, lr⟩ cs := ⟨_, rfl⟩
  obtain ⟨FA, hFA⟩ : ∃ o, o = foundA ⟨nm, fW, fH, reach, dark, AL, ac, la, FL, fc, lf, RL, rc, lr⟩ cs := ⟨_, rfl⟩
  rw [← hFC] at han
  rw [← hFC, ← hFA] at HFn
  rw [← hFA] at HXt HYt
  unfold Frm.val at han
  have Han := Lib.hid han; have HF := Lib.hid (hF.bl w1b); have HC := Lib.hid (hC.bl w1b); have Hbx := Lib.hid hbx; have Hby := Lib.hid hby; have HXl := Lib.hid hXl; have HYl := Lib.hid hYl
  have k1 := w11.all8
  have k2 := w12.all3
  have HW1b := Lib.hid w1b
  unfold Frm.val
  clear han hF hC w1b hbx hby hFC hFA hXS hYS hXl hYl hfit
  go_enter Tryz.func52, Tryz.ntmps52
  go_upto_region 1 with fail
  rw [show ((w.alloc (.cells #[.string ⟨nm.toArray⟩, .int .i64 fW, .int .i64 fH, .int .i64 reach, .int .i64 dark, .slice AL la.length ac, .slice FL lf.length fc, .slice RL lr.length rc] 26)).alloc (.cells #[.int .i64 W, .int .i64 H, .slice C (W * H) cc] 42)).alloc (.cells #[.int .i64 0, .int .i64 0] 47) = w1 from rfl]
  clear_value w1
  go_wp2_with fail
  refine (Han.out w1 HF.out HC.out).mono ?_
  rintro e w2 ⟨A, c, rfl, hra, hb2⟩
  have Hra := Lib.hid hra; have Hb2 := Lib.hid hb2
  have hs2 := hb2.le
  clear hra hb2 k1 k2
  go_wp2_with fail
  go_loopw [5, 6, 14] (fun b5 b6 u wr => ∃ i : Nat, i ≤ la.length ∧ u = .int .i64 i ∧ Bl w2 wr ∧ Two wr w2.heap.size 3 b5 i ((XS.take i).map (.int .i64)) b6 i ((YS.take i).map (.int .i64))) (fun _ _ u _ => la.length - (RowKit.intOf u).toNat)
  case atStart => exact ⟨0, Nat.zero_le _, rfl, Bl.refl _, Two.nil _ _ _⟩
  case round =>
    obtain ⟨i, hi, rfl, hbr, htw⟩ := hrel
    by_cases hlt : i < la.length
    · have hg : la[i]? = some la[i] := List.getElem?_eq_getElem hlt
      obtain ⟨a, ha2⟩ : ∃ l, l = la[i] := ⟨_, rfl⟩
      rw [← ha2] at hg
      obtain ⟨ad, e1, j1, j2, j3⟩ := HFn.out _ _ _ _ (Hra.out.bl hbr) hg
      subst e1
      have htx := HXt.out _ _ hg
      have hty := HYt.out _ _ hg
      obtain ⟨fx, hfx⟩ : ∃ z, z = (FA a).1 := ⟨_, rfl⟩
      obtain ⟨fy, hfy⟩ : ∃ z, z = (FA a).2.1 := ⟨_, rfl⟩
      obtain ⟨fn, hfn⟩ : ∃ z, z = (FA a).2.2 := ⟨_, rfl⟩
      rw [← hfx] at htx j1
      rw [← hfy] at hty j2
      rw [← hfn] at j3
      have Htx := Lib.hid htx; have Hty := Lib.hid hty; have HTw := Lib.hid htw; have Hbr := Lib.hid hbr
      clear hg ha2 htx hty hfx hfy hfn htw hbr
      go_upto_region 5 with fail
      obtain ⟨w5, hw5⟩ : ∃ x, x = wr.alloc (.cells #[.int .i64 fx, .int .i64 fy, .int .i64 fn] 62) := ⟨_, rfl⟩
      have b5 : Blk w5 wr.heap.size 62 #[.int .i64 fx, .int .i64 fy, .int .i64 fn] := by rw [hw5]; exact Blk.new _ _ _
      have hb5 : Bl wr w5 := by rw [hw5]; exact (Bl.refl _).alloc _
      rw [← hw5]
      have htw5 := HTw.out.bl hb5
      have hbr5 := Hbr.out.trans hb5
      have b5b : Blk w5 wr.heap.size 62 #[.int .i64 fx, .int .i64 fy, .int .i64 fn] := b5
      have kf := b5.all3
      have kfx : ∀ wx, Bl w5 wx → wx.cell? ⟨wr.heap.size, 0, none⟩ = some (.int .i64 fx) := fun wx h => (b5.bl h).all3.1
      have hwr := Hbr.out.le
      clear hw5 j1 j2 j3
      refine wp_region_tree (fun wx => Bl w2 wx ∧ Blk wx (wr.heap.size) 62 #[.int .i64 fx, .int .i64 fy, .int .i64 fn]) [(true, 0), (true, 1), (true, 2), (true, 5), (true, 6), (true, 7)] (.one 3 [] (.one 4 [] (.one 8 [] (.one 9 [(true, 10), (true, 11)] .none .none) .none) (.one 8 [] (.one 4 [] (.one 9 [(true, 10), (true, 11)] .none .none) .none) .none)) (.one 8 [] (.one 3 [] (.one 4 [] (.one 9 [(true, 10), (true, 11)] .none .none) .none) .none) .none)) (by kernel_rfl) (by kernel_rfl) (by kernel_rfl) (by kernel_rfl) ⟨Bl.drew hbr5, (b5).drew⟩ ?_
      obtain ⟨wxd, hwxd⟩ : ∃ x, x = (w5).drew := ⟨_, rfl⟩
      have HBD : Bl w2 wxd := by rw [hwxd]; exact Bl.drew hbr5
      rw [← hwxd]
      have HKD : Blk wxd (wr.heap.size) 62 #[.int .i64 fx, .int .i64 fy, .int .i64 fn] := by rw [hwxd]; exact (b5).drew
      have HTD := (htw5).bl (show Bl w5 wxd by rw [hwxd]; exact Bl.drew (Bl.refl _))
      clear hwxd
      iterate 1
        apply FlowS.mv _ rfl
        · intro K' hK'
          simp only [Act.put, Act.eval, List.setIfInBounds_toArray, List.set_cons_zero, List.set_cons_succ, arr_getD, List.getD_cons_zero, List.getD_cons_succ]
          exact hK'
      iterate 1
        apply FlowS.calm2 _ _ rfl rfl
        · intro w' hb' K' hK'
          obtain ⟨hbb', hkk'⟩ := hb'
          obtain ⟨hc', hf'⟩ := hbb'.rule
          have kq' := hkk'.all3
          go_simp
          try go_ints
          exact hK'
        · intro K' hK'
          simp only [Act.put, List.setIfInBounds_toArray, List.set_cons_zero, List.set_cons_succ]
          exact hK'
      iterate 1
        apply FlowS.calm2 _ _ rfl rfl
        · intro w' hb' K' hK'
          obtain ⟨hbb', hkk'⟩ := hb'
          obtain ⟨hc', hf'⟩ := hbb'.rule
          have kq' := hkk'.all3
          go_simp
          try go_ints
          exact hK'
        · intro K' hK'
          simp only [Act.put, List.setIfInBounds_toArray, List.set_cons_zero, List.set_cons_succ]
          exact hK'
      iterate 1
        apply FlowS.mv _ rfl
        · intro K' hK'
          simp only [Act.put, Act.eval, List.setIfInBounds_toArray, List.set_cons_zero, List.set_cons_succ, arr_getD, List.getD_cons_zero, List.getD_cons_succ]
          exact hK'
      iterate 1
        apply FlowS.calm2 _ _ rfl rfl
        · intro w' hb' K' hK'
          obtain ⟨hbb', hkk'⟩ := hb'
          obtain ⟨hc', hf'⟩ := hbb'.rule
          have kq' := hkk'.all3
          go_simp
          try go_ints
          exact hK'
        · intro K' hK'
          simp only [Act.put, List.setIfInBounds_toArray, List.set_cons_zero, List.set_cons_succ]
          exact hK'
      iterate 1
        apply FlowS.calm2 _ _ rfl rfl
        · intro w' hb' K' hK'
          obtain ⟨hbb', hkk'⟩ := hb'
          obtain ⟨hc', hf'⟩ := hbb'.rule
          have kq' := hkk'.all3
          go_simp
          try go_ints
          exact hK'
        · intro K' hK'
          simp only [Act.put, List.setIfInBounds_toArray, List.set_cons_zero, List.set_cons_succ]
          exact hK'
      refine Tree.fork ?_
      refine Tree.part rfl ?_ ?_
      · skip
        go_wp2_with fail
        obtain ⟨wx3, hwx3⟩ : ∃ x, x = (wxd).alloc (.cells #[.int .i64 fx] 3) := ⟨_, rfl⟩
        have bk3 : Blk wx3 (wxd).heap.size 3 #[.int .i64 fx] := by rw [hwx3]; exact Blk.new _ _ _
        have bb3 : Bl wxd wx3 := by rw [hwx3]; exact (Bl.refl _).alloc _
        rw [← hwx3]
        clear hwx3
        have HB3 : Bl w2 wx3 := (HBD).trans bb3
        have bkK_3 := (HKD).bl bb3
        have HT3 := (HTD).bl bb3
        have hle3 := bb3.le
        refine ⟨⟨HB3, bkK_3⟩, ?_⟩
        refine Tree.fork ?_
        refine Tree.part rfl ?_ ?_
        · skip
          refine wpList_append_two (w1 := w2) rfl (.tmp 18) (.tmp 21) 71 rfl 3 (.int .i64 0) 8 Tryz.underlying71 info_int8 rfl w2.heap.size u5 i _ _ _ _ rfl HT3 (wxd.heap.size) (.int .i64 fx) rfl bk3 rfl HB3 (Nat.le_refl _) (HB3).le (by omega) (by unfold maxLen; omega) ?_
          intro vn4 wx4 HT4 HB4 hle4 kk4
          have bk3_4 : Blk wx4 wxd.heap.size 3 #[.int .i64 fx] := (kk4 _ (bk3).lt (fun he => by
            have h := (HTD.x.lt _ he).2
            omega)).trans (bk3)
          have bkK_4 : Blk wx4 (wr.heap.size) 62 #[.int .i64 fx, .int .i64 fy, .int .i64 fn] := (kk4 _ (bkK_3).lt (fun he => by
            have h := ((HTw.out).x.lt _ he).2
            omega)).trans (bkK_3)
          go_wp2_with fail
          refine ⟨⟨HB4, bkK_4⟩, ?_⟩
          refine Tree.fork ?_
          refine Tree.part rfl ?_ ?_
          · skip
            go_wp2_with fail
            obtain ⟨wx8, hwx8⟩ : ∃ x, x = (wx4).alloc (.cells #[.int .i64 fy] 3) := ⟨_, rfl⟩
            have bk8 : Blk wx8 (wx4).heap.size 3 #[.int .i64 fy] := by rw [hwx8]; exact Blk.new _ _ _
            have bb8 : Bl wx4 wx8 := by rw [hwx8]; exact (Bl.refl _).alloc _
            rw [← hwx8]
            clear hwx8
            have HB8 : Bl w2 wx8 := (HB4).trans bb8
            have bk3_8 := (bk3_4).bl bb8
            have bkK_8 := (bkK_4).bl bb8
            have HT8 := (HT4).bl bb8
            have hle8 := bb8.le
            refine ⟨⟨HB8, bkK_8⟩, ?_⟩
            refine Tree.fork ?_
            refine Tree.last rfl ?_ ?_
            · skip
              refine wpList_append_two (w1 := w2) rfl (.tmp 23) (.tmp 26) 71 rfl 3 (.int .i64 0) 8 Tryz.underlying71 info_int8 rfl w2.heap.size u6 i _ _ _ _ rfl (HT8).swap (wx4.heap.size) (.int .i64 fy) rfl bk8 rfl HB8 (Nat.le_refl _) (HB8).le (by omega) (by unfold maxLen; omega) ?_
              intro vn9 wx9 HT9 HB9 hle9 kk9
              replace HT9 := HT9.swap
              have bk3_9 : Blk wx9 wxd.heap.size 3 #[.int .i64 fx] := (kk9 _ (bk3_8).lt (fun he => by
                have h := (HTD.y.lt _ he).2
                omega)).trans (bk3_8)
              have bk8_9 : Blk wx9 wx4.heap.size 3 #[.int .i64 fy] := (kk9 _ (bk8).lt (fun he => by
                have h := (HTD.y.lt _ he).2
                omega)).trans (bk8)
              have bkK_9 : Blk wx9 (wr.heap.size) 62 #[.int .i64 fx, .int .i64 fy, .int .i64 fn] := (kk9 _ (bkK_8).lt (fun he => by
                have h := ((HTw.out).y.lt _ he).2
                omega)).trans (bkK_8)
              go_wp2_with fail
              refine ⟨⟨HB9, bkK_9⟩, ?_⟩
              iterate 2
                apply FlowS.asg _ rfl
                · intro K' hK'
                  simp only [Act.put, Act.eval, List.setIfInBounds_toArray, List.set_cons_zero, List.set_cons_succ, arr_getD, List.getD_cons_zero, List.getD_cons_succ]
                  exact hK'
              refine FlowS.done ?_
              go_wp2_with fail
              exact ⟨⟨i + 1, hlt, by go_num, HB9, by rw [Htx.out, Hty.out, List.map_append, List.map_append]; exact HT9⟩, by simp [RowKit.intOf]; omega⟩
            exact Tree.nil
          exact Tree.nil
        refine Tree.part rfl ?_ ?_
        · skip
          go_wp2_with fail
          obtain ⟨wx8, hwx8⟩ : ∃ x, x = (wx3).alloc (.cells #[.int .i64 fy] 3) := ⟨_, rfl⟩
          have bk8 : Blk wx8 (wx3).heap.size 3 #[.int .i64 fy] := by rw [hwx8]; exact Blk.new _ _ _
          have bb8 : Bl wx3 wx8 := by rw [hwx8]; exact (Bl.refl _).alloc _
          rw [← hwx8]
          clear hwx8
          have HB8 : Bl w2 wx8 := (HB3).trans bb8
          have bk3_8 := (bk3).bl bb8
          have bkK_8 := (bkK_3).bl bb8
          have HT8 := (HT3).bl bb8
          have hle8 := bb8.le
          refine ⟨⟨HB8, bkK_8⟩, ?_⟩
          refine Tree.fork ?_
          refine Tree.part rfl ?_ ?_
          · skip
            refine wpList_append_two (w1 := w2) rfl (.tmp 18) (.tmp 21) 71 rfl 3 (.int .i64 0) 8 Tryz.underlying71 info_int8 rfl w2.heap.size u5 i _ _ _ _ rfl HT8 (wxd.heap.size) (.int .i64 fx) rfl bk3_8 rfl HB8 (Nat.le_refl _) (HB8).le (by omega) (by unfold maxLen; omega) ?_
            intro vn4 wx4 HT4 HB4 hle4 kk4
            have bk3_4 : Blk wx4 wxd.heap.size 3 #[.int .i64 fx] := (kk4 _ (bk3_8).lt (fun he => by
              have h := (HTD.x.lt _ he).2
              omega)).trans (bk3_8)
            have bk8_4 : Blk wx4 wx3.heap.size 3 #[.int .i64 fy] := (kk4 _ (bk8).lt (fun he => by
              have h := (HTD.x.lt _ he).2
              omega)).trans (bk8)
            have bkK_4 : Blk wx4 (wr.heap.size) 62 #[.int .i64 fx, .int .i64 fy, .int .i64 fn] := (kk4 _ (bkK_8).lt (fun he => by
              have h := ((HTw.out).x.lt _ he).2
              omega)).trans (bkK_8)
            go_wp2_with fail
            refine ⟨⟨HB4, bkK_4⟩, ?_⟩
            refine Tree.fork ?_
            refine Tree.last rfl ?_ ?_
            · skip
              refine wpList_append_two (w1 := w2) rfl (.tmp 23) (.tmp 26) 71 rfl 3 (.int .i64 0) 8 Tryz.underlying71 info_int8 rfl w2.heap.size u6 i _ _ _ _ rfl (HT4).swap (wx3.heap.size) (.int .i64 fy) rfl bk8_4 rfl HB4 (Nat.le_refl _) (HB4).le (by omega) (by unfold maxLen; omega) ?_
              intro vn9 wx9 HT9 HB9 hle9 kk9
              replace HT9 := HT9.swap
              have bk3_9 : Blk wx9 wxd.heap.size 3 #[.int .i64 fx] := (kk9 _ (bk3_4).lt (fun he => by
                have h := (HTD.y.lt _ he).2
                omega)).trans (bk3_4)
              have bk8_9 : Blk wx9 wx3.heap.size 3 #[.int .i64 fy] := (kk9 _ (bk8_4).lt (fun he => by
                have h := (HTD.y.lt _ he).2
                omega)).trans (bk8_4)
              have bkK_9 : Blk wx9 (wr.heap.size) 62 #[.int .i64 fx, .int .i64 fy, .int .i64 fn] := (kk9 _ (bkK_4).lt (fun he => by
                have h := ((HTw.out).y.lt _ he).2
                omega)).trans (bkK_4)
              go_wp2_with fail
              refine ⟨⟨HB9, bkK_9⟩, ?_⟩
              iterate 2
                apply FlowS.asg _ rfl
                · intro K' hK'
                  simp only [Act.put, Act.eval, List.setIfInBounds_toArray, List.set_cons_zero, List.set_cons_succ, arr_getD, List.getD_cons_zero, List.getD_cons_succ]
                  exact hK'
              refine FlowS.done ?_
              go_wp2_with fail
              exact ⟨⟨i + 1, hlt, by go_num, HB9, by rw [Htx.out, Hty.out, List.map_append, List.map_append]; exact HT9⟩, by simp [RowKit.intOf]; omega⟩
            exact Tree.nil
          exact Tree.nil
        exact Tree.nil
      refine Tree.part rfl ?_ ?_
      · skip
        go_wp2_with fail
        obtain ⟨wx8, hwx8⟩ : ∃ x, x = (wxd).alloc (.cells #[.int .i64 fy] 3) := ⟨_, rfl⟩
        have bk8 : Blk wx8 (wxd).heap.size 3 #[.int .i64 fy] := by rw [hwx8]; exact Blk.new _ _ _
        have bb8 : Bl wxd wx8 := by rw [hwx8]; exact (Bl.refl _).alloc _
        rw [← hwx8]
        clear hwx8
        have HB8 : Bl w2 wx8 := (HBD).trans bb8
        have bkK_8 := (HKD).bl bb8
        have HT8 := (HTD).bl bb8
        have hle8 := bb8.le
        refine ⟨⟨HB8, bkK_8⟩, ?_⟩
        refine Tree.fork ?_
        refine Tree.part rfl ?_ ?_
        · skip
          go_wp2_with fail
          obtain ⟨wx3, hwx3⟩ : ∃ x, x = (wx8).alloc (.cells #[.int .i64 fx] 3) := ⟨_, rfl⟩
          have bk3 : Blk wx3 (wx8).heap.size 3 #[.int .i64 fx] := by rw [hwx3]; exact Blk.new _ _ _
          have bb3 : Bl wx8 wx3 := by rw [hwx3]; exact (Bl.refl _).alloc _
          rw [← hwx3]
          clear hwx3
          have HB3 : Bl w2 wx3 := (HB8).trans bb3
          have bk8_3 := (bk8).bl bb3
          have bkK_3 := (bkK_8).bl bb3
          have HT3 := (HT8).bl bb3
          have hle3 := bb3.le
          refine ⟨⟨HB3, bkK_3⟩, ?_⟩
          refine Tree.fork ?_
          refine Tree.part rfl ?_ ?_
          · skip
            refine wpList_append_two (w1 := w2) rfl (.tmp 18) (.tmp 21) 71 rfl 3 (.int .i64 0) 8 Tryz.underlying71 info_int8 rfl w2.heap.size u5 i _ _ _ _ rfl HT3 (wx8.heap.size) (.int .i64 fx) rfl bk3 rfl HB3 (Nat.le_refl _) (HB3).le (by omega) (by unfold maxLen; omega) ?_
            intro vn4 wx4 HT4 HB4 hle4 kk4
            have bk8_4 : Blk wx4 wxd.heap.size 3 #[.int .i64 fy] := (kk4 _ (bk8_3).lt (fun he => by
              have h := (HTD.x.lt _ he).2
              omega)).trans (bk8_3)
            have bk3_4 : Blk wx4 wx8.heap.size 3 #[.int .i64 fx] := (kk4 _ (bk3).lt (fun he => by
              have h := (HTD.x.lt _ he).2
              omega)).trans (bk3)
            have bkK_4 : Blk wx4 (wr.heap.size) 62 #[.int .i64 fx, .int .i64 fy, .int .i64 fn] := (kk4 _ (bkK_3).lt (fun he => by
              have h := ((HTw.out).x.lt _ he).2
              omega)).trans (bkK_3)
            go_wp2_with fail
            refine ⟨⟨HB4, bkK_4⟩, ?_⟩
            refine Tree.fork ?_
            refine Tree.last rfl ?_ ?_
            · skip
              refine wpList_append_two (w1 := w2) rfl (.tmp 23) (.tmp 26) 71 rfl 3 (.int .i64 0) 8 Tryz.underlying71 info_int8 rfl w2.heap.size u6 i _ _ _ _ rfl (HT4).swap (wxd.heap.size) (.int .i64 fy) rfl bk8_4 rfl HB4 (Nat.le_refl _) (HB4).le (by omega) (by unfold maxLen; omega) ?_
              intro vn9 wx9 HT9 HB9 hle9 kk9
              replace HT9 := HT9.swap
              have bk8_9 : Blk wx9 wxd.heap.size 3 #[.int .i64 fy] := (kk9 _ (bk8_4).lt (fun he => by
                have h := (HTD.y.lt _ he).2
                omega)).trans (bk8_4)
              have bk3_9 : Blk wx9 wx8.heap.size 3 #[.int .i64 fx] := (kk9 _ (bk3_4).lt (fun he => by
                have h := (HTD.y.lt _ he).2
                omega)).trans (bk3_4)
              have bkK_9 : Blk wx9 (wr.heap.size) 62 #[.int .i64 fx, .int .i64 fy, .int .i64 fn] := (kk9 _ (bkK_4).lt (fun he => by
                have h := ((HTw.out).y.lt _ he).2
                omega)).trans (bkK_4)
              go_wp2_with fail
              refine ⟨⟨HB9, bkK_9⟩, ?_⟩
              iterate 2
                apply FlowS.asg _ rfl
                · intro K' hK'
                  simp only [Act.put, Act.eval, List.setIfInBounds_toArray, List.set_cons_zero, List.set_cons_succ, arr_getD, List.getD_cons_zero, List.getD_cons_succ]
                  exact hK'
              refine FlowS.done ?_
              go_wp2_with fail
              exact ⟨⟨i + 1, hlt, by go_num, HB9, by rw [Htx.out, Hty.out, List.map_append, List.map_append]; exact HT9⟩, by simp [RowKit.intOf]; omega⟩
            exact Tree.nil
          exact Tree.nil
        exact Tree.nil
      exact Tree.nil
    · obtain rfl : i = la.length := by omega
      rw [List.take_of_length_le (by rw [HXl.out]; exact Nat.le_refl _), List.take_of_length_le (by rw [HYl.out]; exact Nat.le_refl _)] at htw
      have HTw := Lib.hid htw; have Hbr := Lib.hid (Hb2.out.trans hbr)
      have B13 := Lib.hid (w13.bl Hbr.out)
      clear hbr
      by_cases hn : la.length = 0
      · have hx := htw.x
        obtain ⟨A5, c5, rfl, -⟩ := own_reads hx
        obtain ⟨A6, c6, rfl, -⟩ := own_reads htw.y
        have k3 := B13.out.all2
        have hXn : XS = [] := List.eq_nil_of_length_eq_zero (by rw [HXl.out, hn])
        have hYn : YS = [] := List.eq_nil_of_length_eq_zero (by rw [HYl.out, hn])
        have HX := Lib.hid (show medI XS = 0 by rw [hXn, medI_nil])
        have HY := Lib.hid (show medI YS = 0 by rw [hYn, medI_nil])
        clear htw hx hXn hYn
        go_wp2_with fail
        obtain ⟨wS, hwS⟩ : ∃ x, x = (wr.setCell ⟨w.heap.size + 1 + 1, 0, none⟩ (.int .i64 0)).setCell ⟨w.heap.size + 1 + 1, 1, none⟩ (.int .i64 0) := ⟨_, rfl⟩
        have bS : Blk wS (w.heap.size + 1 + 1) 47 #[.int .i64 0, .int .i64 0] := by rw [hwS]; exact (B13.out.set_ 0 _).set_ 1 _
        have hS : Bl w wS := by rw [hwS]; exact ((HW1b.out.trans Hbr.out).setCell (by show _ ≤ _ + 1 + 1; omega) _).setCell (by show _ ≤ _ + 1 + 1; omega) _
        rw [← hwS]
        have kF := bS.all2
        refine bodyPost_ret (v := .agg #[.int .i64 0, .int .i64 0]) (by simp [results, Tryz.results52, go_sem, kF]) rfl ⟨by rw [HX.out, HY.out], hS⟩
      · have hn0 : 0 < la.length := Nat.pos_of_ne_zero hn
        have hx := htw.x
        have hy := htw.y
        have hne := htw.ne
        rcases hx.2 with ⟨-, h0⟩ | ⟨g, cx, cur, rfl, hgB, hgh, hcx, -⟩
        · exact absurd h0 hn
        rcases hy.2 with ⟨-, h0⟩ | ⟨g2, cy, cur2, rfl, hgB2, hgh2, hcy, -⟩
        · exact absurd h0 hn
        have hg2 : g2 ≠ g := fun e => hne g rfl (by rw [e]; rfl)
        have hlx := (hx.lt g rfl).2
        have hly := (hy.lt g2 rfl).2
        have Hx := Lib.hid hx; have Hy := Lib.hid hy
        have hs1 := sortI_any w2.heap.size g cx 3 XS wr (by rw [HXl.out]; exact hx) (by rw [HXl.out]; omega)
        rw [HXl.out] at hs1
        have Hs1 := Lib.hid hs1
        have HgB := Lib.hid hgB; have HgB2 := Lib.hid hgB2; have Hlx := Lib.hid hlx; have Hly := Lib.hid hly; have Hg2 := Lib.hid hg2; have Hn0 := Lib.hid hn0
        have hw13 := B13.out.lt
        have hlt13 := w13.lt
        clear htw hx hy hne hgh hgh2 hs1 hgB hgB2 hlx hly hg2
        go_wp2_with fail
        refine Hs1.out.mono ?_
        rintro e w3 ⟨rfl, hr3, hle3, hk3, hbl3⟩
        have Hr3 := Lib.hid hr3; have Hk3 := Lib.hid hk3; have Hb3 := Lib.hid (hbl3 w1 Hbr.out (Nat.le_trans hs2 HgB.out)); have Hle3 := Lib.hid hle3
        have hy3 := own_same Hy.out (hk3 g2 Hly.out Hg2.out)
        have hs2' := sortI_any w2.heap.size g2 cy 3 YS w3 (by rw [HYl.out]; exact hy3) (by rw [HYl.out]; omega)
        rw [HYl.out] at hs2'
        have Hs2 := Lib.hid hs2'
        clear hr3 hk3 hbl3 hy3 hs2' hle3
        go_wp2_with fail
        refine Hs2.out.mono ?_
        rintro e w4 ⟨rfl, hr4, -, hk4, hbl4⟩
        have hb4 := hbl4 w1 Hb3.out (Nat.le_trans hs2 HgB2.out)
        have Hb4 := Lib.hid hb4
        have hr5 := reads_same Hr3.out (hk4 g (Nat.lt_of_lt_of_le Hlx.out Hle3.out) (fun e => Hg2.out e.symm))
        rw [← HXl.out] at hr5
        rw [← HYl.out] at hr4
        have kx := med_cell (by rw [HXl.out]; exact Hn0.out) hr5
        have ky := med_cell (by rw [HYl.out]; exact Hn0.out) hr4
        rw [HXl.out] at kx
        rw [HYl.out] at ky
        have B4 := Lib.hid (w13.bl hb4)
        have k3 := B4.out.all2
        obtain ⟨lm, hlm⟩ : ∃ m, m = la.length - 1 := ⟨_, rfl⟩
        obtain ⟨mi, hmi⟩ : ∃ m, m = lm / 2 := ⟨_, rfl⟩
        rw [← hlm, ← hmi] at kx ky
        have hoi : ((la.length : Int) - 1) = (lm : Int) := by omega
        have hoj : ((lm : Int) / 2) = (mi : Int) := by omega
        have hok : (lm : Int).tdiv 2 = (mi : Int) := by rw [Int.tdiv_eq_ediv_of_nonneg (by omega)]; exact hoj
        have hml : (mi : Int) < (la.length : Int) := by omega
        have hmc : (mi : Int) < (cx : Int) ∧ (mi : Int) < (cy : Int) := by omega
        obtain ⟨mx, hmx⟩ : ∃ m, m = medI XS := ⟨_, rfl⟩
        obtain ⟨my, hmy⟩ : ∃ m, m = medI YS := ⟨_, rfl⟩
        rw [← hmx] at kx
        rw [← hmy] at ky
        have Hmx := Lib.hid hmx; have Hmy := Lib.hid hmy
        clear hr4 hk4 hbl4 hb4 hr5 hlm hmi hmx hmy
        go_upto_region 11 with fail
        refine wp_region_flow [(true, 0), (true, 1), (true, 2), (true, 3), (true, 4), (true, 5), (true, 6), (true, 7), (true, 8), (true, 9), (true, 10), (true, 11), (true, 12), (false, 13)] (fun i => i == 13) (by kernel_rfl) (by kernel_rfl) (by kernel_rfl) (by kernel_rfl) ?_
        iterate 2
          apply Flow.mv _ rfl
          · intro K' hK'
            simp only [Act.put, Act.eval, List.setIfInBounds_toArray, List.set_cons_zero, List.set_cons_succ, arr_getD, List.getD_cons_zero, List.getD_cons_succ]
            exact hK'
        iterate 2
          apply Flow.calm2 _ _ rfl rfl
          · intro w' hb' K' hK'
            obtain ⟨hc', hf'⟩ := hb'.rule
            go_simp
            try go_ints
            exact hK'
          · intro K' hK'
            simp only [Act.put, List.setIfInBounds_toArray, List.set_cons_zero, List.set_cons_succ]
            exact hK'
        iterate 1
          apply Flow.calm2 _ _ rfl rfl
          · intro w' hb' K' hK'
            obtain ⟨hc', hf'⟩ := hb'.rule
            go_simp
            try go_ints
            exact hK'
          · intro K' hK'
            simp only [Act.put, List.setIfInBounds_toArray, List.set_cons_zero, List.set_cons_succ]
            exact hK'
        iterate 1
          apply Flow.calm2 _ _ rfl rfl
          · intro w' hb' K' hK'
            obtain ⟨hc', hf'⟩ := hb'.rule
            go_simp
            try go_ints
            exact hK'
          · intro K' hK'
            simp only [Act.put, List.setIfInBounds_toArray, List.set_cons_zero, List.set_cons_succ]
            exact hK'
        iterate 2
          apply Flow.mv _ rfl
          · intro K' hK'
            simp only [Act.put, Act.eval, List.setIfInBounds_toArray, List.set_cons_zero, List.set_cons_succ, arr_getD, List.getD_cons_zero, List.getD_cons_succ]
            exact hK'
        iterate 2
          apply Flow.calm2 _ _ rfl rfl
          · intro w' hb' K' hK'
            obtain ⟨hc', hf'⟩ := hb'.rule
            go_simp
            try go_ints
            exact hK'
          · intro K' hK'
            simp only [Act.put, List.setIfInBounds_toArray, List.set_cons_zero, List.set_cons_succ]
            exact hK'
        iterate 1
          apply Flow.calm2 _ _ rfl rfl
          · intro w' hb' K' hK'
            obtain ⟨hc', hf'⟩ := hb'.rule
            go_simp
            try go_ints
            exact hK'
          · intro K' hK'
            simp only [Act.put, List.setIfInBounds_toArray, List.set_cons_zero, List.set_cons_succ]
            exact hK'
        iterate 1
          apply Flow.calm2 _ _ rfl rfl
          · intro w' hb' K' hK'
            obtain ⟨hc', hf'⟩ := hb'.rule
            go_simp
            try go_ints
            exact hK'
          · intro K' hK'
            simp only [Act.put, List.setIfInBounds_toArray, List.set_cons_zero, List.set_cons_succ]
            exact hK'
        iterate 1
          apply Flow.calm2 _ _ rfl rfl
          · intro w' hb' K' hK'
            obtain ⟨hc', hf'⟩ := hb'.rule
            go_simp
            try go_ints
            exact hK'
          · intro K' hK'
            simp only [Act.put, List.setIfInBounds_toArray, List.set_cons_zero, List.set_cons_succ]
            exact hK'
        refine Flow.tail _ rfl ?_
        go_wp2_with fail
        obtain ⟨wS, hwS⟩ : ∃ x, x = ((((w4.setCell ⟨w.heap.size + 1 + 1, 0, none⟩ (.int .i64 mx)).setCell ⟨w.heap.size + 1 + 1, 1, none⟩ (.int .i64 my)).setCell ⟨w.heap.size + 1 + 1, 0, none⟩ (.int .i64 mx)).setCell ⟨w.heap.size + 1 + 1, 1, none⟩ (.int .i64 my)).drew := ⟨_, rfl⟩
        have bS : Blk wS (w.heap.size + 1 + 1) 47 #[.int .i64 mx, .int .i64 my] := by rw [hwS]; exact ((((B4.out.set_ 0 _).set_ 1 _).set_ 0 _).set_ 1 _).drew
        have hS : Bl w wS := by rw [hwS]; exact (((((HW1b.out.trans Hb4.out).setCell (by show _ ≤ _ + 1 + 1; omega) _).setCell (by show _ ≤ _ + 1 + 1; omega) _).setCell (by show _ ≤ _ + 1 + 1; omega) _).setCell (by show _ ≤ _ + 1 + 1; omega) _).drew
        rw [← hwS]
        have kF := bS.all2
        refine bodyPost_ret (v := .agg #[.int .i64 mx, .int .i64 my]) (by simp [results, Tryz.results52, go_sem, kF]) rfl ⟨by rw [← Hmx.out, ← Hmy.out], hS⟩
end Go.Proofs.YtahfkahfaiidgaaGreatDoor


/-! bedref2.OffsetOf. -/
namespace Go.Proofs.YtahfkahfaiidgaaGreatDoor
open Go.RowKit Go.Shelf

set_option maxRecDepth 100000 in
set_option maxHeartbeats 4000000 in
theorem offsetOf_any (f : Frm) (C : Option Addr) (cc : Nat) (cs : List Bool) (W H r : Nat) (w : World) (hfit : Fits f W H r) (hr8 : r ≤ 8) (hF : FrmAt w f) (hC : Reads w 1 C (W * H) (cs.map .bool)) :
    Calls Tryz.prog 24 #[f.val, .agg #[.int .i64 W, .int .i64 H, .slice C (W * H) cc]] w fun e w' => e = .returned (.agg #[.int .i64 (medI (offX f cs)), .int .i64 (medI (offY f cs))]) ∧ Bl w w' := by
  have hfo := fun (a : Anc) (BW BH : Nat) wx (q1 : a.W = (BW : Int)) (q2 : a.H = (BH : Int)) (q3 : a.m = BW * BH) (q4 : a.box.inP f.W f.H = true) hA hC => foundOf_any f a C cc cs W H BW BH r wx hfit.fW hfit.fH hfit.fr q1 q2 q3 hr8 hfit.hW hfit.hH q4 hA hC
  have hat := fun (a : Anc) (ha : a ∈ f.la) => hfit.at_ ha
  have hl10 : f.la.length ≤ 10 := hfit.hla
  have hbx := offX_bd (cs := cs) hfit
  have hby := offY_bd (cs := cs) hfit
  obtain ⟨XS, hXS⟩ : ∃ x, x = offX f cs := ⟨_, rfl⟩
  obtain ⟨YS, hYS⟩ : ∃ x, x = offY f cs := ⟨_, rfl⟩
  rw [← hXS] at hbx
  rw [← hYS] at hby
  rw [← hXS, ← hYS]
  have hXl : XS.length = f.la.length := by rw [hXS]; simp [offX]
  have hYl : YS.length = f.la.length := by rw [hYS]; simp [offY]
  have HXt := Lib.hid (fun (i : Nat) (a : Anc) (hi : f.la[i]? = some a) => show XS.take (i + 1) = XS.take i ++ [(foundA f cs a).1] by rw [hXS]; exact take_map _ hi)
  have HYt := Lib.hid (fun (i : Nat) (a : Anc) (hi : f.la[i]? = some a) => show YS.take (i + 1) = YS.take i ++ [(foundA f cs a).2.1] by rw [hYS]; exact take_map _ hi)
  obtain ⟨nm, fW, fH, reach, dark, AL, ac, la, FL, fc, lf, RL, rc, lr⟩ := f
  simp only at hl10 hXl hYl
  let w1 := (((w).alloc (.cells #[.string ⟨nm.toArray⟩, .int .i64 fW, .int .i64 fH, .int .i64 reach, .int .i64 dark, .slice AL la.length ac, .slice FL lf.length fc, .slice RL lr.length rc] 26)).alloc (.cells #[.int .i64 W, .int .i64 H, .slice C (W * H) cc] 42)).alloc (.cells #[.int .i64 0, .int .i64 0] 47)
  have w1b : Bl w w1 := (((Bl.refl w).alloc _).alloc _).alloc _
  have w11 : Blk w1 (w.heap.size) 26 #[.string ⟨nm.toArray⟩, .int .i64 fW, .int .i64 fH, .int .i64 reach, .int .i64 dark, .slice AL la.length ac, .slice FL lf.length fc, .slice RL lr.length rc] := by
    have h0 := Blk.new (w) 26 #[.string ⟨nm.toArray⟩, .int .i64 fW, .int .i64 fH, .int .i64 reach, .int .i64 dark, .slice AL la.length ac, .slice FL lf.length fc, .slice RL lr.length rc]
    exact ((h0.alloc _).alloc _)
  have w12 : Blk w1 (w.heap.size + 1) 42 #[.int .i64 W, .int .i64 H, .slice C (W * H) cc] := by
    have h0 := Blk.new ((w).alloc (.cells #[.string ⟨nm.toArray⟩, .int .i64 fW, .int .i64 fH, .int .i64 reach, .int .i64 dark, .slice AL la.length ac, .slice FL lf.length fc, .slice RL lr.length rc] 26)) 42 #[.int .i64 W, .int .i64 H, .slice C (W * H) cc]
    simp only [World.size_alloc] at h0
    exact (h0.alloc _)
  have w13 : Blk w1 (w.heap.size + 1 + 1) 47 #[.int .i64 0, .int .i64 0] := by
    have h0 := Blk.new (((w).alloc (.cells #[.string ⟨nm.toArray⟩, .int .i64 fW, .int .i64 fH, .int .i64 reach, .int .i64 dark, .slice AL la.length ac, .slice FL lf.length fc, .slice RL lr.length rc] 26)).alloc (.cells #[.int .i64 W, .int .i64 H, .slice C (W * H) cc] 42)) 47 #[.int .i64 0, .int .i64 0]
    simp only [World.size_alloc] at h0
    exact h0
  obtain ⟨FA, hFA⟩ : ∃ o, o = foundA ⟨nm, fW, fH, reach, dark, AL, ac, la, FL, fc, lf, RL, rc, lr⟩ cs := ⟨_, rfl⟩
  rw [← hFA] at HXt HYt hfo
  unfold Frm.val Anc.val at hfo
  have Hfo := Lib.hid hfo; have Hat := Lib.hid hat; have HFA := Lib.hid (hF.ancs.bl w1b); have HC := Lib.hid (hC.bl w1b); have Hbx := Lib.hid hbx; have Hby := Lib.hid hby; have HXl := Lib.hid hXl; have HYl := Lib.hid hYl
  have k1 := w11.all8
  have k2 := w12.all3
  have HW1b := Lib.hid w1b
  unfold Frm.val
  clear hfo hat hF hC w1b hbx hby hFA hXS hYS hXl hYl hfit
  go_enter Tryz.func24, Tryz.ntmps24
  go_upto_region 1 with fail
  rw [show ((w.alloc (.cells #[.string ⟨nm.toArray⟩, .int .i64 fW, .int .i64 fH, .int .i64 reach, .int .i64 dark, .slice AL la.length ac, .slice FL lf.length fc, .slice RL lr.length rc] 26)).alloc (.cells #[.int .i64 W, .int .i64 H, .slice C (W * H) cc] 42)).alloc (.cells #[.int .i64 0, .int .i64 0] 47) = w1 from rfl]
  clear_value w1
  go_wp2_with fail
  go_loopw [5, 6, 13] (fun b5 b6 u wr => ∃ i : Nat, i ≤ la.length ∧ u = .int .i64 i ∧ Bl w1 wr ∧ Two wr w1.heap.size 3 b5 i ((XS.take i).map (.int .i64)) b6 i ((YS.take i).map (.int .i64))) (fun _ _ u _ => la.length - (RowKit.intOf u).toNat)
  case atStart => exact ⟨0, Nat.zero_le _, rfl, Bl.refl _, Two.nil _ _ _⟩
  case round =>
    obtain ⟨i, hi, rfl, hbr, htw⟩ := hrel
    by_cases hlt : i < la.length
    · have hg : la[i]? = some la[i] := List.getElem?_eq_getElem hlt
      obtain ⟨a, ha2⟩ : ∃ l, l = la[i] := ⟨_, rfl⟩
      rw [← ha2] at hg
      obtain ⟨ad, e1, j1, j2, j3, j4, j5⟩ := (HFA.out.bl hbr).at_ hg
      subst e1
      obtain ⟨BW, BH, q1, q2, q3, q4, q5, q6, q7, q8⟩ := Hat.out a (List.mem_of_getElem? hg)
      have HAr := Lib.hid (HFA.out.2 a (List.mem_of_getElem? hg))
      have hfo2 := fun wx hA hC => Hfo.out a BW BH wx q1 q2 q3 q4 hA hC
      have htx := HXt.out _ _ hg
      have hty := HYt.out _ _ hg
      obtain ⟨fx, hfx⟩ : ∃ z, z = (FA a).1 := ⟨_, rfl⟩
      obtain ⟨fy, hfy⟩ : ∃ z, z = (FA a).2.1 := ⟨_, rfl⟩
      obtain ⟨fn, hfn⟩ : ∃ z, z = (FA a).2.2 := ⟨_, rfl⟩
      rw [← hfx, ← hfy, ← hfn] at hfo2
      rw [← hfx] at htx
      rw [← hfy] at hty
      have Htx := Lib.hid htx; have Hty := Lib.hid hty; have HTw := Lib.hid htw; have Hbr := Lib.hid hbr; have Hfo2 := Lib.hid hfo2
      have k1 := (w11.bl hbr).all8
      clear hg ha2 htx hty hfx hfy hfn htw hbr hfo2 q1 q2 q3 q4
      go_upto_region 5 with fail
      obtain ⟨w3, hw3⟩ : ∃ x, x = wr.alloc (.cells #[.int .i64 a.W, .int .i64 a.H, .slice a.A a.m a.c, .int .i64 a.X, .int .i64 a.Y] 60) := ⟨_, rfl⟩
      have b3 : Blk w3 wr.heap.size 60 #[.int .i64 a.W, .int .i64 a.H, .slice a.A a.m a.c, .int .i64 a.X, .int .i64 a.Y] := by rw [hw3]; exact Blk.new _ _ _
      have hb3 : Bl wr w3 := by rw [hw3]; exact (Bl.refl _).alloc _
      rw [← hw3]
      have Hb3 := Lib.hid (Hbr.out.trans hb3); have Hbr3 := Lib.hid hb3
      have k1 := (w11.bl Hb3.out).all8
      have k2 := (w12.bl Hb3.out).all3
      have k3 := b3.all5
      clear hw3 b3 hb3 j1 j2 j3 j4 j5
      go_upto_region 6 with (go_at_call 22; refine (Hfo2.out _ (HAr.out.bl Hb3.out) (HC.out.bl Hb3.out)).mono ?_; rintro e w4 ⟨rfl, hb4⟩)
      obtain ⟨w5, hw5⟩ : ∃ x, x = w4.alloc (.cells #[.int .i64 fx, .int .i64 fy, .int .i64 fn] 62) := ⟨_, rfl⟩
      have b5 : Blk w5 w4.heap.size 62 #[.int .i64 fx, .int .i64 fy, .int .i64 fn] := by rw [hw5]; exact Blk.new _ _ _
      have hb5 : Bl w4 w5 := by rw [hw5]; exact (Bl.refl _).alloc _
      rw [← hw5]
      have HTw4 := Lib.hid (HTw.out.bl (Hbr3.out.trans hb4))
      have htw5 := HTw4.out.bl hb5
      have hbr5 := Hb3.out.trans (hb4.trans hb5)
      have hwr := (Hb3.out.trans hb4).le
      clear hw5 k1 k2 k3
      refine wp_region_tree (fun wx => Bl w1 wx ∧ Blk wx (w4.heap.size) 62 #[.int .i64 fx, .int .i64 fy, .int .i64 fn]) [(true, 0), (true, 1), (true, 2), (true, 5), (true, 6), (true, 7)] (.one 3 [] (.one 4 [] (.one 8 [] (.one 9 [(true, 10), (true, 11)] .none .none) .none) (.one 8 [] (.one 4 [] (.one 9 [(true, 10), (true, 11)] .none .none) .none) .none)) (.one 8 [] (.one 3 [] (.one 4 [] (.one 9 [(true, 10), (true, 11)] .none .none) .none) .none) .none)) (by kernel_rfl) (by kernel_rfl) (by kernel_rfl) (by kernel_rfl) ⟨Bl.drew hbr5, (b5).drew⟩ ?_
      obtain ⟨wxd, hwxd⟩ : ∃ x, x = (w5).drew := ⟨_, rfl⟩
      have HBD : Bl w1 wxd := by rw [hwxd]; exact Bl.drew hbr5
      rw [← hwxd]
      have HKD : Blk wxd (w4.heap.size) 62 #[.int .i64 fx, .int .i64 fy, .int .i64 fn] := by rw [hwxd]; exact (b5).drew
      have HTD := (htw5).bl (show Bl w5 wxd by rw [hwxd]; exact Bl.drew (Bl.refl _))
      clear hwxd
      iterate 1
        apply FlowS.mv _ rfl
        · intro K' hK'
          simp only [Act.put, Act.eval, List.setIfInBounds_toArray, List.set_cons_zero, List.set_cons_succ, arr_getD, List.getD_cons_zero, List.getD_cons_succ]
          exact hK'
      iterate 1
        apply FlowS.calm2 _ _ rfl rfl
        · intro w' hb' K' hK'
          obtain ⟨hbb', hkk'⟩ := hb'
          obtain ⟨hc', hf'⟩ := hbb'.rule
          have kq' := hkk'.all3
          go_simp
          try go_ints
          exact hK'
        · intro K' hK'
          simp only [Act.put, List.setIfInBounds_toArray, List.set_cons_zero, List.set_cons_succ]
          exact hK'
      iterate 1
        apply FlowS.calm2 _ _ rfl rfl
        · intro w' hb' K' hK'
          obtain ⟨hbb', hkk'⟩ := hb'
          obtain ⟨hc', hf'⟩ := hbb'.rule
          have kq' := hkk'.all3
          go_simp
          try go_ints
          exact hK'
        · intro K' hK'
          simp only [Act.put, List.setIfInBounds_toArray, List.set_cons_zero, List.set_cons_succ]
          exact hK'
      iterate 1
        apply FlowS.mv _ rfl
        · intro K' hK'
          simp only [Act.put, Act.eval, List.setIfInBounds_toArray, List.set_cons_zero, List.set_cons_succ, arr_getD, List.getD_cons_zero, List.getD_cons_succ]
          exact hK'
      iterate 1
        apply FlowS.calm2 _ _ rfl rfl
        · intro w' hb' K' hK'
          obtain ⟨hbb', hkk'⟩ := hb'
          obtain ⟨hc', hf'⟩ := hbb'.rule
          have kq' := hkk'.all3
          go_simp
          try go_ints
          exact hK'
        · intro K' hK'
          simp only [Act.put, List.setIfInBounds_toArray, List.set_cons_zero, List.set_cons_succ]
          exact hK'
      iterate 1
        apply FlowS.calm2 _ _ rfl rfl
        · intro w' hb' K' hK'
          obtain ⟨hbb', hkk'⟩ := hb'
          obtain ⟨hc', hf'⟩ := hbb'.rule
          have kq' := hkk'.all3
          go_simp
          try go_ints
          exact hK'
        · intro K' hK'
          simp only [Act.put, List.setIfInBounds_toArray, List.set_cons_zero, List.set_cons_succ]
          exact hK'
      refine Tree.fork ?_
      refine Tree.part rfl ?_ ?_
      · skip
        go_wp2_with fail
        obtain ⟨wx3, hwx3⟩ : ∃ x, x = (wxd).alloc (.cells #[.int .i64 fx] 3) := ⟨_, rfl⟩
        have bk3 : Blk wx3 (wxd).heap.size 3 #[.int .i64 fx] := by rw [hwx3]; exact Blk.new _ _ _
        have bb3 : Bl wxd wx3 := by rw [hwx3]; exact (Bl.refl _).alloc _
        rw [← hwx3]
        clear hwx3
        have HB3 : Bl w1 wx3 := (HBD).trans bb3
        have bkK_3 := (HKD).bl bb3
        have HT3 := (HTD).bl bb3
        have hle3 := bb3.le
        refine ⟨⟨HB3, bkK_3⟩, ?_⟩
        refine Tree.fork ?_
        refine Tree.part rfl ?_ ?_
        · skip
          refine wpList_append_two (w1 := w1) rfl (.tmp 21) (.tmp 24) 71 rfl 3 (.int .i64 0) 8 Tryz.underlying71 info_int8 rfl w1.heap.size u5 i _ _ _ _ rfl HT3 (wxd.heap.size) (.int .i64 fx) rfl bk3 rfl HB3 (Nat.le_refl _) (HB3).le (by omega) (by unfold maxLen; omega) ?_
          intro vn4 wx4 HT4 HB4 hle4 kk4
          have bk3_4 : Blk wx4 wxd.heap.size 3 #[.int .i64 fx] := (kk4 _ (bk3).lt (fun he => by
            have h := (HTD.x.lt _ he).2
            omega)).trans (bk3)
          have bkK_4 : Blk wx4 (w4.heap.size) 62 #[.int .i64 fx, .int .i64 fy, .int .i64 fn] := (kk4 _ (bkK_3).lt (fun he => by
            have h := ((HTw4.out).x.lt _ he).2
            omega)).trans (bkK_3)
          go_wp2_with fail
          refine ⟨⟨HB4, bkK_4⟩, ?_⟩
          refine Tree.fork ?_
          refine Tree.part rfl ?_ ?_
          · skip
            go_wp2_with fail
            obtain ⟨wx8, hwx8⟩ : ∃ x, x = (wx4).alloc (.cells #[.int .i64 fy] 3) := ⟨_, rfl⟩
            have bk8 : Blk wx8 (wx4).heap.size 3 #[.int .i64 fy] := by rw [hwx8]; exact Blk.new _ _ _
            have bb8 : Bl wx4 wx8 := by rw [hwx8]; exact (Bl.refl _).alloc _
            rw [← hwx8]
            clear hwx8
            have HB8 : Bl w1 wx8 := (HB4).trans bb8
            have bk3_8 := (bk3_4).bl bb8
            have bkK_8 := (bkK_4).bl bb8
            have HT8 := (HT4).bl bb8
            have hle8 := bb8.le
            refine ⟨⟨HB8, bkK_8⟩, ?_⟩
            refine Tree.fork ?_
            refine Tree.last rfl ?_ ?_
            · skip
              refine wpList_append_two (w1 := w1) rfl (.tmp 26) (.tmp 29) 71 rfl 3 (.int .i64 0) 8 Tryz.underlying71 info_int8 rfl w1.heap.size u6 i _ _ _ _ rfl (HT8).swap (wx4.heap.size) (.int .i64 fy) rfl bk8 rfl HB8 (Nat.le_refl _) (HB8).le (by omega) (by unfold maxLen; omega) ?_
              intro vn9 wx9 HT9 HB9 hle9 kk9
              replace HT9 := HT9.swap
              have bk3_9 : Blk wx9 wxd.heap.size 3 #[.int .i64 fx] := (kk9 _ (bk3_8).lt (fun he => by
                have h := (HTD.y.lt _ he).2
                omega)).trans (bk3_8)
              have bk8_9 : Blk wx9 wx4.heap.size 3 #[.int .i64 fy] := (kk9 _ (bk8).lt (fun he => by
                have h := (HTD.y.lt _ he).2
                omega)).trans (bk8)
              have bkK_9 : Blk wx9 (w4.heap.size) 62 #[.int .i64 fx, .int .i64 fy, .int .i64 fn] := (kk9 _ (bkK_8).lt (fun he => by
                have h := ((HTw4.out).y.lt _ he).2
                omega)).trans (bkK_8)
              go_wp2_with fail
              refine ⟨⟨HB9, bkK_9⟩, ?_⟩
              iterate 2
                apply FlowS.asg _ rfl
                · intro K' hK'
                  simp only [Act.put, Act.eval, List.setIfInBounds_toArray, List.set_cons_zero, List.set_cons_succ, arr_getD, List.getD_cons_zero, List.getD_cons_succ]
                  exact hK'
              refine FlowS.done ?_
              go_wp2_with fail
              exact ⟨⟨i + 1, hlt, by go_num, HB9, by rw [Htx.out, Hty.out, List.map_append, List.map_append]; exact HT9⟩, by simp [RowKit.intOf]; omega⟩
            exact Tree.nil
          exact Tree.nil
        refine Tree.part rfl ?_ ?_
        · skip
          go_wp2_with fail
          obtain ⟨wx8, hwx8⟩ : ∃ x, x = (wx3).alloc (.cells #[.int .i64 fy] 3) := ⟨_, rfl⟩
          have bk8 : Blk wx8 (wx3).heap.size 3 #[.int .i64 fy] := by rw [hwx8]; exact Blk.new _ _ _
          have bb8 : Bl wx3 wx8 := by rw [hwx8]; exact (Bl.refl _).alloc _
          rw [← hwx8]
          clear hwx8
          have HB8 : Bl w1 wx8 := (HB3).trans bb8
          have bk3_8 := (bk3).bl bb8
          have bkK_8 := (bkK_3).bl bb8
          have HT8 := (HT3).bl bb8
          have hle8 := bb8.le
          refine ⟨⟨HB8, bkK_8⟩, ?_⟩
          refine Tree.fork ?_
          refine Tree.part rfl ?_ ?_
          · skip
            refine wpList_append_two (w1 := w1) rfl (.tmp 21) (.tmp 24) 71 rfl 3 (.int .i64 0) 8 Tryz.underlying71 info_int8 rfl w1.heap.size u5 i _ _ _ _ rfl HT8 (wxd.heap.size) (.int .i64 fx) rfl bk3_8 rfl HB8 (Nat.le_refl _) (HB8).le (by omega) (by unfold maxLen; omega) ?_
            intro vn4 wx4 HT4 HB4 hle4 kk4
            have bk3_4 : Blk wx4 wxd.heap.size 3 #[.int .i64 fx] := (kk4 _ (bk3_8).lt (fun he => by
              have h := (HTD.x.lt _ he).2
              omega)).trans (bk3_8)
            have bk8_4 : Blk wx4 wx3.heap.size 3 #[.int .i64 fy] := (kk4 _ (bk8).lt (fun he => by
              have h := (HTD.x.lt _ he).2
              omega)).trans (bk8)
            have bkK_4 : Blk wx4 (w4.heap.size) 62 #[.int .i64 fx, .int .i64 fy, .int .i64 fn] := (kk4 _ (bkK_8).lt (fun he => by
              have h := ((HTw4.out).x.lt _ he).2
              omega)).trans (bkK_8)
            go_wp2_with fail
            refine ⟨⟨HB4, bkK_4⟩, ?_⟩
            refine Tree.fork ?_
            refine Tree.last rfl ?_ ?_
            · skip
              refine wpList_append_two (w1 := w1) rfl (.tmp 26) (.tmp 29) 71 rfl 3 (.int .i64 0) 8 Tryz.underlying71 info_int8 rfl w1.heap.size u6 i _ _ _ _ rfl (HT4).swap (wx3.heap.size) (.int .i64 fy) rfl bk8_4 rfl HB4 (Nat.le_refl _) (HB4).le (by omega) (by unfold maxLen; omega) ?_
              intro vn9 wx9 HT9 HB9 hle9 kk9
              replace HT9 := HT9.swap
              have bk3_9 : Blk wx9 wxd.heap.size 3 #[.int .i64 fx] := (kk9 _ (bk3_4).lt (fun he => by
                have h := (HTD.y.lt _ he).2
                omega)).trans (bk3_4)
              have bk8_9 : Blk wx9 wx3.heap.size 3 #[.int .i64 fy] := (kk9 _ (bk8_4).lt (fun he => by
                have h := (HTD.y.lt _ he).2
                omega)).trans (bk8_4)
              have bkK_9 : Blk wx9 (w4.heap.size) 62 #[.int .i64 fx, .int .i64 fy, .int .i64 fn] := (kk9 _ (bkK_4).lt (fun he => by
                have h := ((HTw4.out).y.lt _ he).2
                omega)).trans (bkK_4)
              go_wp2_with fail
              refine ⟨⟨HB9, bkK_9⟩, ?_⟩
              iterate 2
                apply FlowS.asg _ rfl
                · intro K' hK'
                  simp only [Act.put, Act.eval, List.setIfInBounds_toArray, List.set_cons_zero, List.set_cons_succ, arr_getD, List.getD_cons_zero, List.getD_cons_succ]
                  exact hK'
              refine FlowS.done ?_
              go_wp2_with fail
              exact ⟨⟨i + 1, hlt, by go_num, HB9, by rw [Htx.out, Hty.out, List.map_append, List.map_append]; exact HT9⟩, by simp [RowKit.intOf]; omega⟩
            exact Tree.nil
          exact Tree.nil
        exact Tree.nil
      refine Tree.part rfl ?_ ?_
      · skip
        go_wp2_with fail
        obtain ⟨wx8, hwx8⟩ : ∃ x, x = (wxd).alloc (.cells #[.int .i64 fy] 3) := ⟨_, rfl⟩
        have bk8 : Blk wx8 (wxd).heap.size 3 #[.int .i64 fy] := by rw [hwx8]; exact Blk.new _ _ _
        have bb8 : Bl wxd wx8 := by rw [hwx8]; exact (Bl.refl _).alloc _
        rw [← hwx8]
        clear hwx8
        have HB8 : Bl w1 wx8 := (HBD).trans bb8
        have bkK_8 := (HKD).bl bb8
        have HT8 := (HTD).bl bb8
        have hle8 := bb8.le
        refine ⟨⟨HB8, bkK_8⟩, ?_⟩
        refine Tree.fork ?_
        refine Tree.part rfl ?_ ?_
        · skip
          go_wp2_with fail
          obtain ⟨wx3, hwx3⟩ : ∃ x, x = (wx8).alloc (.cells #[.int .i64 fx] 3) := ⟨_, rfl⟩
          have bk3 : Blk wx3 (wx8).heap.size 3 #[.int .i64 fx] := by rw [hwx3]; exact Blk.new _ _ _
          have bb3 : Bl wx8 wx3 := by rw [hwx3]; exact (Bl.refl _).alloc _
          rw [← hwx3]
          clear hwx3
          have HB3 : Bl w1 wx3 := (HB8).trans bb3
          have bk8_3 := (bk8).bl bb3
          have bkK_3 := (bkK_8).bl bb3
          have HT3 := (HT8).bl bb3
          have hle3 := bb3.le
          refine ⟨⟨HB3, bkK_3⟩, ?_⟩
          refine Tree.fork ?_
          refine Tree.part rfl ?_ ?_
          · skip
            refine wpList_append_two (w1 := w1) rfl (.tmp 21) (.tmp 24) 71 rfl 3 (.int .i64 0) 8 Tryz.underlying71 info_int8 rfl w1.heap.size u5 i _ _ _ _ rfl HT3 (wx8.heap.size) (.int .i64 fx) rfl bk3 rfl HB3 (Nat.le_refl _) (HB3).le (by omega) (by unfold maxLen; omega) ?_
            intro vn4 wx4 HT4 HB4 hle4 kk4
            have bk8_4 : Blk wx4 wxd.heap.size 3 #[.int .i64 fy] := (kk4 _ (bk8_3).lt (fun he => by
              have h := (HTD.x.lt _ he).2
              omega)).trans (bk8_3)
            have bk3_4 : Blk wx4 wx8.heap.size 3 #[.int .i64 fx] := (kk4 _ (bk3).lt (fun he => by
              have h := (HTD.x.lt _ he).2
              omega)).trans (bk3)
            have bkK_4 : Blk wx4 (w4.heap.size) 62 #[.int .i64 fx, .int .i64 fy, .int .i64 fn] := (kk4 _ (bkK_3).lt (fun he => by
              have h := ((HTw4.out).x.lt _ he).2
              omega)).trans (bkK_3)
            go_wp2_with fail
            refine ⟨⟨HB4, bkK_4⟩, ?_⟩
            refine Tree.fork ?_
            refine Tree.last rfl ?_ ?_
            · skip
              refine wpList_append_two (w1 := w1) rfl (.tmp 26) (.tmp 29) 71 rfl 3 (.int .i64 0) 8 Tryz.underlying71 info_int8 rfl w1.heap.size u6 i _ _ _ _ rfl (HT4).swap (wxd.heap.size) (.int .i64 fy) rfl bk8_4 rfl HB4 (Nat.le_refl _) (HB4).le (by omega) (by unfold maxLen; omega) ?_
              intro vn9 wx9 HT9 HB9 hle9 kk9
              replace HT9 := HT9.swap
              have bk8_9 : Blk wx9 wxd.heap.size 3 #[.int .i64 fy] := (kk9 _ (bk8_4).lt (fun he => by
                have h := (HTD.y.lt _ he).2
                omega)).trans (bk8_4)
              have bk3_9 : Blk wx9 wx8.heap.size 3 #[.int .i64 fx] := (kk9 _ (bk3_4).lt (fun he => by
                have h := (HTD.y.lt _ he).2
                omega)).trans (bk3_4)
              have bkK_9 : Blk wx9 (w4.heap.size) 62 #[.int .i64 fx, .int .i64 fy, .int .i64 fn] := (kk9 _ (bkK_4).lt (fun he => by
                have h := ((HTw4.out).y.lt _ he).2
                omega)).trans (bkK_4)
              go_wp2_with fail
              refine ⟨⟨HB9, bkK_9⟩, ?_⟩
              iterate 2
                apply FlowS.asg _ rfl
                · intro K' hK'
                  simp only [Act.put, Act.eval, List.setIfInBounds_toArray, List.set_cons_zero, List.set_cons_succ, arr_getD, List.getD_cons_zero, List.getD_cons_succ]
                  exact hK'
              refine FlowS.done ?_
              go_wp2_with fail
              exact ⟨⟨i + 1, hlt, by go_num, HB9, by rw [Htx.out, Hty.out, List.map_append, List.map_append]; exact HT9⟩, by simp [RowKit.intOf]; omega⟩
            exact Tree.nil
          exact Tree.nil
        exact Tree.nil
      exact Tree.nil
    · obtain rfl : i = la.length := by omega
      rw [List.take_of_length_le (by rw [HXl.out]; exact Nat.le_refl _), List.take_of_length_le (by rw [HYl.out]; exact Nat.le_refl _)] at htw
      have HTw := Lib.hid htw; have Hbr := Lib.hid hbr
      have B13 := Lib.hid (w13.bl Hbr.out)
      clear hbr
      by_cases hn : la.length = 0
      · have hx := htw.x
        obtain ⟨A5, c5, rfl, -⟩ := own_reads hx
        obtain ⟨A6, c6, rfl, -⟩ := own_reads htw.y
        have k3 := B13.out.all2
        have hXn : XS = [] := List.eq_nil_of_length_eq_zero (by rw [HXl.out, hn])
        have hYn : YS = [] := List.eq_nil_of_length_eq_zero (by rw [HYl.out, hn])
        have HX := Lib.hid (show medI XS = 0 by rw [hXn, medI_nil])
        have HY := Lib.hid (show medI YS = 0 by rw [hYn, medI_nil])
        clear htw hx hXn hYn
        go_wp2_with fail
        obtain ⟨wS, hwS⟩ : ∃ x, x = (wr.setCell ⟨w.heap.size + 1 + 1, 0, none⟩ (.int .i64 0)).setCell ⟨w.heap.size + 1 + 1, 1, none⟩ (.int .i64 0) := ⟨_, rfl⟩
        have bS : Blk wS (w.heap.size + 1 + 1) 47 #[.int .i64 0, .int .i64 0] := by rw [hwS]; exact (B13.out.set_ 0 _).set_ 1 _
        have hS : Bl w wS := by rw [hwS]; exact ((HW1b.out.trans Hbr.out).setCell (by show _ ≤ _ + 1 + 1; omega) _).setCell (by show _ ≤ _ + 1 + 1; omega) _
        rw [← hwS]
        have kF := bS.all2
        refine bodyPost_ret (v := .agg #[.int .i64 0, .int .i64 0]) (by simp [results, Tryz.results24, go_sem, kF]) rfl ⟨by rw [HX.out, HY.out], hS⟩
      · have hn0 : 0 < la.length := Nat.pos_of_ne_zero hn
        have hx := htw.x
        have hy := htw.y
        have hne := htw.ne
        rcases hx.2 with ⟨-, h0⟩ | ⟨g, cx, cur, rfl, hgB, hgh, hcx, -⟩
        · exact absurd h0 hn
        rcases hy.2 with ⟨-, h0⟩ | ⟨g2, cy, cur2, rfl, hgB2, hgh2, hcy, -⟩
        · exact absurd h0 hn
        have hg2 : g2 ≠ g := fun e => hne g rfl (by rw [e]; rfl)
        have hlx := (hx.lt g rfl).2
        have hly := (hy.lt g2 rfl).2
        have Hx := Lib.hid hx; have Hy := Lib.hid hy
        have hs1 := sortI_any w1.heap.size g cx 3 XS wr (by rw [HXl.out]; exact hx) (by rw [HXl.out]; omega)
        rw [HXl.out] at hs1
        have Hs1 := Lib.hid hs1
        have HgB := Lib.hid hgB; have HgB2 := Lib.hid hgB2; have Hlx := Lib.hid hlx; have Hly := Lib.hid hly; have Hg2 := Lib.hid hg2; have Hn0 := Lib.hid hn0
        have hw13 := B13.out.lt
        have hlt13 := w13.lt
        clear htw hx hy hne hgh hgh2 hs1 hgB hgB2 hlx hly hg2
        go_wp2_with fail
        refine Hs1.out.mono ?_
        rintro e w3 ⟨rfl, hr3, hle3, hk3, hbl3⟩
        have Hr3 := Lib.hid hr3; have Hk3 := Lib.hid hk3; have Hb3 := Lib.hid (hbl3 w1 Hbr.out HgB.out); have Hle3 := Lib.hid hle3
        have hy3 := own_same Hy.out (hk3 g2 Hly.out Hg2.out)
        have hs2' := sortI_any w1.heap.size g2 cy 3 YS w3 (by rw [HYl.out]; exact hy3) (by rw [HYl.out]; omega)
        rw [HYl.out] at hs2'
        have Hs2 := Lib.hid hs2'
        clear hr3 hk3 hbl3 hy3 hs2' hle3
        go_wp2_with fail
        refine Hs2.out.mono ?_
        rintro e w4 ⟨rfl, hr4, -, hk4, hbl4⟩
        have hb4 := hbl4 w1 Hb3.out HgB2.out
        have Hb4 := Lib.hid hb4
        have hr5 := reads_same Hr3.out (hk4 g (Nat.lt_of_lt_of_le Hlx.out Hle3.out) (fun e => Hg2.out e.symm))
        rw [← HXl.out] at hr5
        rw [← HYl.out] at hr4
        have kx := med_cell (by rw [HXl.out]; exact Hn0.out) hr5
        have ky := med_cell (by rw [HYl.out]; exact Hn0.out) hr4
        rw [HXl.out] at kx
        rw [HYl.out] at ky
        have B4 := Lib.hid (w13.bl hb4)
        have k3 := B4.out.all2
        obtain ⟨lm, hlm⟩ : ∃ m, m = la.length - 1 := ⟨_, rfl⟩
        obtain ⟨mi, hmi⟩ : ∃ m, m = lm / 2 := ⟨_, rfl⟩
        rw [← hlm, ← hmi] at kx ky
        have hoi : ((la.length : Int) - 1) = (lm : Int) := by omega
        have hoj : ((lm : Int) / 2) = (mi : Int) := by omega
        have hok : (lm : Int).tdiv 2 = (mi : Int) := by rw [Int.tdiv_eq_ediv_of_nonneg (by omega)]; exact hoj
        have hml : (mi : Int) < (la.length : Int) := by omega
        have hmc : (mi : Int) < (cx : Int) ∧ (mi : Int) < (cy : Int) := by omega
        obtain ⟨mx, hmx⟩ : ∃ m, m = medI XS := ⟨_, rfl⟩
        obtain ⟨my, hmy⟩ : ∃ m, m = medI YS := ⟨_, rfl⟩
        rw [← hmx] at kx
        rw [← hmy] at ky
        have Hmx := Lib.hid hmx; have Hmy := Lib.hid hmy
        clear hr4 hk4 hbl4 hb4 hr5 hlm hmi hmx hmy
        go_upto_region 12 with fail
        refine wp_region_flow [(true, 0), (true, 1), (true, 2), (true, 3), (true, 4), (true, 5), (true, 6), (true, 7), (true, 8), (true, 9), (true, 10), (true, 11), (true, 12), (true, 13), (true, 14), (false, 15)] (fun i => i == 15) (by kernel_rfl) (by kernel_rfl) (by kernel_rfl) (by kernel_rfl) ?_
        iterate 2
          apply Flow.mv _ rfl
          · intro K' hK'
            simp only [Act.put, Act.eval, List.setIfInBounds_toArray, List.set_cons_zero, List.set_cons_succ, arr_getD, List.getD_cons_zero, List.getD_cons_succ]
            exact hK'
        iterate 1
          apply Flow.calm2 _ _ rfl rfl
          · intro w' hb' K' hK'
            obtain ⟨hc', hf'⟩ := hb'.rule
            go_simp
            try go_ints
            exact hK'
          · intro K' hK'
            simp only [Act.put, List.setIfInBounds_toArray, List.set_cons_zero, List.set_cons_succ]
            exact hK'
        iterate 2
          apply Flow.calm2 _ _ rfl rfl
          · intro w' hb' K' hK'
            obtain ⟨hc', hf'⟩ := hb'.rule
            go_simp
            try go_ints
            exact hK'
          · intro K' hK'
            simp only [Act.put, List.setIfInBounds_toArray, List.set_cons_zero, List.set_cons_succ]
            exact hK'
        iterate 1
          apply Flow.calm2 _ _ rfl rfl
          · intro w' hb' K' hK'
            obtain ⟨hc', hf'⟩ := hb'.rule
            go_simp
            try go_ints
            exact hK'
          · intro K' hK'
            simp only [Act.put, List.setIfInBounds_toArray, List.set_cons_zero, List.set_cons_succ]
            exact hK'
        iterate 1
          apply Flow.calm2 _ _ rfl rfl
          · intro w' hb' K' hK'
            obtain ⟨hc', hf'⟩ := hb'.rule
            go_simp
            try go_ints
            exact hK'
          · intro K' hK'
            simp only [Act.put, List.setIfInBounds_toArray, List.set_cons_zero, List.set_cons_succ]
            exact hK'
        iterate 2
          apply Flow.mv _ rfl
          · intro K' hK'
            simp only [Act.put, Act.eval, List.setIfInBounds_toArray, List.set_cons_zero, List.set_cons_succ, arr_getD, List.getD_cons_zero, List.getD_cons_succ]
            exact hK'
        iterate 1
          apply Flow.calm2 _ _ rfl rfl
          · intro w' hb' K' hK'
            obtain ⟨hc', hf'⟩ := hb'.rule
            go_simp
            try go_ints
            exact hK'
          · intro K' hK'
            simp only [Act.put, List.setIfInBounds_toArray, List.set_cons_zero, List.set_cons_succ]
            exact hK'
        iterate 2
          apply Flow.calm2 _ _ rfl rfl
          · intro w' hb' K' hK'
            obtain ⟨hc', hf'⟩ := hb'.rule
            go_simp
            try go_ints
            exact hK'
          · intro K' hK'
            simp only [Act.put, List.setIfInBounds_toArray, List.set_cons_zero, List.set_cons_succ]
            exact hK'
        iterate 1
          apply Flow.calm2 _ _ rfl rfl
          · intro w' hb' K' hK'
            obtain ⟨hc', hf'⟩ := hb'.rule
            go_simp
            try go_ints
            exact hK'
          · intro K' hK'
            simp only [Act.put, List.setIfInBounds_toArray, List.set_cons_zero, List.set_cons_succ]
            exact hK'
        iterate 1
          apply Flow.calm2 _ _ rfl rfl
          · intro w' hb' K' hK'
            obtain ⟨hc', hf'⟩ := hb'.rule
            go_simp
            try go_ints
            exact hK'
          · intro K' hK'
            simp only [Act.put, List.setIfInBounds_toArray, List.set_cons_zero, List.set_cons_succ]
            exact hK'
        iterate 1
          apply Flow.calm2 _ _ rfl rfl
          · intro w' hb' K' hK'
            obtain ⟨hc', hf'⟩ := hb'.rule
            go_simp
            try go_ints
            exact hK'
          · intro K' hK'
            simp only [Act.put, List.setIfInBounds_toArray, List.set_cons_zero, List.set_cons_succ]
            exact hK'
        refine Flow.tail _ rfl ?_
        go_wp2_with fail
        obtain ⟨wS, hwS⟩ : ∃ x, x = ((w4.setCell ⟨w.heap.size + 1 + 1, 0, none⟩ (.int .i64 mx)).setCell ⟨w.heap.size + 1 + 1, 1, none⟩ (.int .i64 my)).drew := ⟨_, rfl⟩
        have bS : Blk wS (w.heap.size + 1 + 1) 47 #[.int .i64 mx, .int .i64 my] := by rw [hwS]; exact ((B4.out.set_ 0 _).set_ 1 _).drew
        have hS : Bl w wS := by rw [hwS]; exact (((HW1b.out.trans Hb4.out).setCell (by show _ ≤ _ + 1 + 1; omega) _).setCell (by show _ ≤ _ + 1 + 1; omega) _).drew
        rw [← hwS]
        have kF := bS.all2
        refine bodyPost_ret (v := .agg #[.int .i64 mx, .int .i64 my]) (by simp [results, Tryz.results24, go_sem, kF]) rfl ⟨by rw [← Hmx.out, ← Hmy.out], hS⟩
end Go.Proofs.YtahfkahfaiidgaaGreatDoor
