/- bar.Read39, bedref2.Read39Of. -/
import Derived.Test.YtkipcobpnecmhaaGreatDoorMClaimBarCodes34

namespace Go.Proofs.YtkipcobpnecmhaaGreatDoor
open Go.RowKit Go.Shelf

set_option maxRecDepth 100000 in
set_option maxHeartbeats 2000000 in
theorem eitherW_any (g : Nat) (rd : List UInt8 → List UInt8 × Int) (eg : ∀ args w, (callFunc g args).run Tryz.prog w = .ok (.enter g args) w) (M : Nat) (hM : M ≤ 9223372036854775807)
    (w : World) (hr : ∀ (m : List UInt8) (W : World), m.length ≤ M → Bl w W → Calls Tryz.prog g #[.string ⟨m.toArray⟩] W fun e w' => e = .returned (.tuple #[.string ⟨(rd m).1.toArray⟩, .int .i64 (rd m).2]) ∧ Bl W w')
    (m : List UInt8) (hl : m.length ≤ M) :
    Calls Tryz.prog 115 #[.string ⟨m.toArray⟩, .func (.func g) #[] #[]] w fun e w' => e = .returned (.tuple #[.string ⟨(eitherG rd m).1.toArray⟩, .int .i64 (eitherG rd m).2]) ∧ Bl w w' := by
  have H1 := Lib.hid (hr m)
  have H2 := Lib.hid (hr m.reverse)
  have hb := fun wx => backwards_any m wx (by omega)
  unfold FlipRes at hb
  have Hb := Lib.hid hb
  obtain ⟨a, ha⟩ : ∃ a, a = (rd m).1 := ⟨_, rfl⟩
  obtain ⟨e1, he1⟩ : ∃ a, a = (rd m).2 := ⟨_, rfl⟩
  rw [← ha, ← he1] at H1
  obtain ⟨b, hb2⟩ : ∃ a, a = (rd m.reverse).1 := ⟨_, rfl⟩
  obtain ⟨e2, he2⟩ : ∃ a, a = (rd m.reverse).2 := ⟨_, rfl⟩
  rw [← hb2, ← he2] at H2
  obtain ⟨r, hrv⟩ : ∃ r, r = m.reverse := ⟨_, rfl⟩
  have hrl : r.length ≤ M := by rw [hrv, List.length_reverse]; exact hl
  by_cases hq : e1 = 2
  · have hE : eitherG rd m = rd m.reverse := by unfold eitherG; rw [← he1, if_pos hq]
    have HA := Lib.hid (show (eitherG rd m).1 = b from by rw [hE, hb2])
    have HB := Lib.hid (show (eitherG rd m).2 = e2 from by rw [hE, he2])
    rw [← hrv] at Hb H2
    subst hq
    clear hE ha he1 hb2 he2 hb hr hrv
    go_enter Tryz.func115, Tryz.ntmps115
    go_wp2_with fail
    refine (H1.out _ hl (Bl.refl _)).mono ?_
    rintro e w1 ⟨rfl, hb1⟩
    go_wp2_with fail
    refine (Hb.out _).mono ?_
    rintro e w2 ⟨rfl, hb2⟩
    go_wp2_with fail
    refine (H2.out _ hrl (hb1.trans hb2)).mono ?_
    rintro e w3 ⟨rfl, hb3⟩
    go_wp2_with fail
    exact bodyPost_ret (v := .tuple #[.string ⟨b.toArray⟩, .int .i64 e2]) (by simp [results, Tryz.results115, go_sem]) rfl ⟨by rw [HA.out, HB.out], (hb1.trans hb2).trans hb3⟩
  · have hE : eitherG rd m = rd m := by unfold eitherG; rw [← he1, if_neg hq]
    have HA := Lib.hid (show (eitherG rd m).1 = a from by rw [hE, ha])
    have HB := Lib.hid (show (eitherG rd m).2 = e1 from by rw [hE, he1])
    have hqb : (e1 == 2) = false := by rw [beq_eq_false_iff_ne]; exact hq
    clear hE ha he1 hb2 he2 hb hr hrv hq
    go_enter Tryz.func115, Tryz.ntmps115
    go_wp2_with fail
    refine (H1.out _ hl (Bl.refl _)).mono ?_
    rintro e w1 ⟨rfl, hb1⟩
    go_wp2_with fail
    exact bodyPost_ret (v := .tuple #[.string ⟨a.toArray⟩, .int .i64 e1]) (by simp [results, Tryz.results115, go_sem]) rfl ⟨by rw [HA.out, HB.out], hb1⟩
set_option maxRecDepth 100000 in
theorem read39x_any (m : List UInt8) (w : World) (hl : m.length ≤ 1048576) (hT : SpOk w) :
    Calls Tryz.prog 78 #[.string ⟨m.toArray⟩] w fun e w' => e = .returned (.tuple #[.string ⟨(eitherG rd39 m).1.toArray⟩, .int .i64 (eitherG rd39 m).2]) ∧ Bl w w' := by
  have H := Lib.hid (eitherW_any 117 rd39 (enters Tryz.func117 (by kernel_rfl) rfl) 1048576 (by decide) w (fun m W h hb => read39_any m W h (hT.bl hb)) m hl)
  obtain ⟨a, ha⟩ : ∃ a, a = (eitherG rd39 m).1 := ⟨_, rfl⟩
  obtain ⟨e1, he1⟩ : ∃ a, a = (eitherG rd39 m).2 := ⟨_, rfl⟩
  rw [← ha, ← he1] at H ⊢
  clear ha he1 hT
  go_enter Tryz.func78, Tryz.ntmps78
  go_wp2_with fail
  refine H.out.mono ?_
  rintro e w1 ⟨rfl, hb1⟩
  go_wp2_with fail
  exact bodyPost_ret (v := .tuple #[.string ⟨a.toArray⟩, .int .i64 e1]) (by simp [results, Tryz.results78, go_sem]) rfl ⟨rfl, hb1⟩
theorem outR_mem {s T : List UInt8} (h : outR s = some T) : ∀ c ∈ T, c ∈ lets44 := by
  unfold outR at h
  by_cases hl : lenOK s = true
  · rw [if_pos hl] at h
    obtain ⟨ks, hk, rfl⟩ := Option.map_eq_some_iff.1 h
    exact txt_mem (decP_lt hk)
  · rw [if_neg hl] at h; cases h
theorem t39_cases (s : List UInt8) : (∃ T, outR s = some T ∧ shpT T = true) ∨ (t39 s = ([], false) ∧ rd39 s = ([], 2)) := by
  cases h : outR s with
  | none => exact .inr ⟨t39_none h, rd_none h⟩
  | some T =>
    cases hs : shpT T with
    | true => exact .inl ⟨T, rfl, hs⟩
    | false => exact .inr ⟨t39_shape h hs, rd_shape h hs⟩
theorem shp_len {T : List UInt8} (h : shpT T = true) : 4 ≤ T.length ∧ T.length ≤ 43 := by
  unfold shpT at h
  simp only [Bool.and_eq_true, decide_eq_true_eq] at h
  exact ⟨h.1, h.2.1⟩
/-- What is wanted of the text between the stars. -/
structure Mid (s Y B Z : List UInt8) : Prop where
  t : t39 s = (Y, true)
  cat : Y = B ++ Z
  lz : Z.length = 1
  lb : B.length ≤ 40
  lb1 : 1 ≤ B.length
  ok : lettersOk B = true
  rd : rd39 s = if chkL B = Z then (B, 0) else ([], 14)
theorem mid_of {s T : List UInt8} (h : outR s = some T) (hs : shpT T = true) : Mid s (midT T) (bodyT T) (lastT T) := by
  obtain ⟨h4, h43⟩ := shp_len hs
  obtain ⟨b1, b2, b3, b4⟩ := body_ok (outR_mem h) hs
  have hv : letVal (bodyT T) = chkL (bodyT T) := by unfold letVal; rw [b4]; rfl
  exact ⟨t39_some h hs, (body_mid h4).2, by unfold lastT; rw [List.length_take, List.length_drop]; omega, b3, b2, b1, by rw [rd_some h hs, hv]⟩
theorem eitherR_two {s : List UInt8} (h : rd39 s = ([], 2)) : eitherG rd39 s = rd39 s.reverse := by unfold eitherG; rw [h, if_pos rfl]
theorem eitherR_not {s : List UInt8} (h : (rd39 s).2 ≠ 2) : eitherG rd39 s = rd39 s := by unfold eitherG; rw [if_neg h]
set_option maxRecDepth 100000 in
set_option maxHeartbeats 8000000 in
theorem read39Of_any (m : List UInt8) (w : World) (hl : m.length ≤ 1048576) (hT : SpOk w) :
    Calls Tryz.prog 49 #[.string ⟨m.toArray⟩] w fun e w' => e = .returned (.tuple #[.string ⟨(eitherG rd39 m).1.toArray⟩, .int .i64 (eitherG rd39 m).2]) ∧ Bl w w' := by
  have hf := flip_any m w (by omega)
  unfold FlipRes at hf
  have Hf := Lib.hid hf
  have HT := Lib.hid hT
  have hrl : m.reverse.length ≤ 1048576 := by rw [List.length_reverse]; exact hl
  obtain ⟨r, hr⟩ : ∃ r, r = m.reverse := ⟨_, rfl⟩
  rw [← hr] at Hf hrl
  have HRv := Lib.hid hr
  clear hf hT hr
  go_enter Tryz.func49, Tryz.ntmps49
  go_wp2_with fail
  refine Hf.out.mono ?_
  rintro e w1 ⟨rfl, hb1⟩
  clear Hf
  go_wp2_with fail
  have hbk := Blk.new w1 9 #[.string ⟨m.toArray⟩, .string ⟨r.toArray⟩]
  have hb2 : Bl w (w1.alloc (.cells #[.string ⟨m.toArray⟩, .string ⟨r.toArray⟩] 9)) := hb1.alloc _
  obtain ⟨kb, hkb⟩ : ∃ k, k = w1.heap.size := ⟨_, rfl⟩
  rw [← hkb] at hbk ⊢
  generalize w1.alloc (.cells #[.string ⟨m.toArray⟩, .string ⟨r.toArray⟩] 9) = w2 at hbk hb2 ⊢
  have k1 := hbk.all2
  have HBk := Lib.hid hbk
  have Hm := Lib.hid (text39_any m w2 hl (HT.out.bl hb2))
  clear hkb hb1 hbk
  refine wp_loop_rounds 3 ?_
  rw [rounds_succ]
  rcases t39_cases m with ⟨T, hT1, hT2⟩ | ⟨ht, hr2⟩
  · obtain ⟨Y, B, Z, M⟩ : ∃ Y B Z, Mid m Y B Z := ⟨_, _, _, mid_of hT1 hT2⟩
    have hY : Y.length = B.length + 1 := by rw [M.cat, List.length_append, M.lz]
    obtain ⟨n, hn⟩ : ∃ n, n = B.length := ⟨_, rfl⟩
    have hexb : (⟨Y.toArray⟩ : ByteArray).extract 0 n = ⟨B.toArray⟩ := by
      rw [slice_ab, M.cat, List.drop_zero, Nat.sub_zero, List.take_left' hn.symm]
    have hexz : (⟨Y.toArray⟩ : ByteArray).extract n Y.length = ⟨Z.toArray⟩ := by
      rw [extract_drop, M.cat, List.drop_left' hn.symm]
    have hYI : (Y.length : Int) - 1 = (n : Int) := by omega
    have hn0 : (0 : Int) ≤ (n : Int) := by omega
    have hn40 : n ≤ 40 := by rw [hn]; exact M.lb
    have hnI40 : (n : Int) ≤ 40 := by omega
    have hYl : Y.length ≤ 41 := by omega
    have hnY : (n : Int) ≤ (Y.length : Int) := by omega
    have hsY : (⟨Y.toArray⟩ : ByteArray).size = Y.length := Lib.size_mk Y
    have hco := fun wx => checkLetterOf_any B wx (by have := M.lb; omega) M.ok
    obtain ⟨C, hC⟩ : ∃ C, C = chkL B := ⟨_, rfl⟩
    have hrd := M.rd
    rw [← hC] at hco hrd
    have Hco := Lib.hid hco; have HRd := Lib.hid hrd; have HMt := Lib.hid M.t
    clear hY hn hco hC hrd M
    go_wp2_with fail
    refine Hm.out.mono ?_
    rw [HMt.out]
    rintro e w3 ⟨rfl, hb3⟩
    clear Hm
    go_upto_region 7 with fail
    refine wp_region_flow [(true, 0), (true, 2), (true, 3), (true, 4), (true, 5), (true, 6), (false, 1), (true, 7)] (fun _ => false) (by kernel_rfl) (by kernel_rfl) (by kernel_rfl) (by kernel_rfl) ?_
    iterate 3
      apply Flow.mv _ rfl
      · intro K' hK'
        simp only [Act.put, Act.eval, List.setIfInBounds_toArray, List.set_cons_zero, List.set_cons_succ, arr_getD, List.getD_cons_zero, List.getD_cons_succ]
        exact hK'
    iterate 1
      apply Flow.calm2 _ _ rfl rfl
      · intro w' hb' K' hK'
        obtain ⟨hc', hf'⟩ := hb'.rule
        go_simp
        try go_ints
        exact hK'
      · intro K' hK'
        simp only [Act.put, List.setIfInBounds_toArray, List.set_cons_zero, List.set_cons_succ]
        exact hK'
    iterate 1
      apply Flow.calm2 _ _ rfl rfl
      · intro w' hb' K' hK'
        obtain ⟨hc', hf'⟩ := hb'.rule
        go_simp
        try go_ints
        exact hK'
      · intro K' hK'
        simp only [Act.put, List.setIfInBounds_toArray, List.set_cons_zero, List.set_cons_succ]
        exact hK'
    iterate 1
      apply Flow.calm2 _ _ rfl rfl
      · intro w' hb' K' hK'
        obtain ⟨hc', hf'⟩ := hb'.rule
        go_simp
        try go_ints
        exact hK'
      · intro K' hK'
        simp only [Act.put, List.setIfInBounds_toArray, List.set_cons_zero, List.set_cons_succ]
        exact hK'
    apply Flow.move rfl
    go_wp2_with fail
    refine (Hco.out _).mono ?_
    rintro e w8 ⟨rfl, hw8⟩
    subst hw8
    have HB1 := Bl.refl w
    go_wp2_with fail
    refine ⟨fun _ => (by first | exact HB1 | exact Bl.refl _), ?_⟩
    iterate 1
      apply Flow.calm2 _ _ rfl rfl
      · intro w' hb' K' hK'
        obtain ⟨hc', hf'⟩ := hb'.rule
        go_simp
        try go_ints
        exact hK'
      · intro K' hK'
        simp only [Act.put, List.setIfInBounds_toArray, List.set_cons_zero, List.set_cons_succ]
        exact hK'
    refine Flow.done ?_
    have HB8 := Lib.hid ((hb2.trans hb3).drew)
    clear Hco
    cases hcz : (C == Z) with
    | true =>
      have HR2 := Lib.hid (HRd.out.trans (if_pos (by simpa using hcz)))
      have HF := Lib.hid (show eitherG rd39 m = (B, 0) by rw [eitherR_not (by rw [HR2.out]; exact (by decide : (0 : Int) ≠ 2)), HR2.out])
      clear HRd
      go_wp2_with fail
      exact bodyPost_ret (v := .tuple #[.string ⟨B.toArray⟩, .int .i64 0]) (by simp [results, Tryz.results49, go_sem]; try exact hexb) rfl ⟨by rw [HF.out], HB8.out⟩
    | false =>
      have HR2 := Lib.hid (HRd.out.trans (if_neg (by simpa using hcz)))
      have HF := Lib.hid (show eitherG rd39 m = ([], 14) by rw [eitherR_not (by rw [HR2.out]; exact (by decide : (14 : Int) ≠ 2)), HR2.out])
      clear HRd
      go_wp2_with fail
      exact bodyPost_ret (v := .tuple #[.string ⟨#[]⟩, .int .i64 14]) (by simp [results, Tryz.results49, go_sem]) rfl ⟨by rw [HF.out], HB8.out⟩
  · rw [ht] at Hm
    have HE := Lib.hid ((eitherR_two hr2).trans (by rw [← HRv.out]))
    clear ht hr2
    go_wp2_with fail
    refine Hm.out.mono ?_
    rintro e w3' ⟨rfl, hb3'⟩
    have hb23 := hb2.trans hb3'
    have Hr := Lib.hid (text39_any r w3' hrl (HT.out.bl hb23))
    have k3 := (HBk.out.bl hb3').all2
    clear k1 Hm hb2
    go_wp2_with fail
    rw [rounds_succ]
    rcases t39_cases r with ⟨T, hT1, hT2⟩ | ⟨ht, hr2⟩
    · obtain ⟨Y, B, Z, M⟩ : ∃ Y B Z, Mid r Y B Z := ⟨_, _, _, mid_of hT1 hT2⟩
      have hY : Y.length = B.length + 1 := by rw [M.cat, List.length_append, M.lz]
      obtain ⟨n, hn⟩ : ∃ n, n = B.length := ⟨_, rfl⟩
      have hexb : (⟨Y.toArray⟩ : ByteArray).extract 0 n = ⟨B.toArray⟩ := by
        rw [slice_ab, M.cat, List.drop_zero, Nat.sub_zero, List.take_left' hn.symm]
      have hexz : (⟨Y.toArray⟩ : ByteArray).extract n Y.length = ⟨Z.toArray⟩ := by
        rw [extract_drop, M.cat, List.drop_left' hn.symm]
      have hYI : (Y.length : Int) - 1 = (n : Int) := by omega
      have hn0 : (0 : Int) ≤ (n : Int) := by omega
      have hn40 : n ≤ 40 := by rw [hn]; exact M.lb
      have hnI40 : (n : Int) ≤ 40 := by omega
      have hYl : Y.length ≤ 41 := by omega
      have hnY : (n : Int) ≤ (Y.length : Int) := by omega
      have hsY : (⟨Y.toArray⟩ : ByteArray).size = Y.length := Lib.size_mk Y
      have hco := fun wx => checkLetterOf_any B wx (by have := M.lb; omega) M.ok
      obtain ⟨C, hC⟩ : ∃ C, C = chkL B := ⟨_, rfl⟩
      have hrd := M.rd
      rw [← hC] at hco hrd
      have Hco := Lib.hid hco; have HRd := Lib.hid hrd; have HMt := Lib.hid M.t
      clear hY hn hco hC hrd M
      go_wp2_with fail
      refine Hr.out.mono ?_
      rw [HMt.out]
      rintro e w3 ⟨rfl, hb3⟩
      clear Hr
      go_upto_region 7 with fail
      refine wp_region_flow [(true, 0), (true, 2), (true, 3), (true, 4), (true, 5), (true, 6), (false, 1), (true, 7)] (fun _ => false) (by kernel_rfl) (by kernel_rfl) (by kernel_rfl) (by kernel_rfl) ?_
      iterate 3
        apply Flow.mv _ rfl
        · intro K' hK'
          simp only [Act.put, Act.eval, List.setIfInBounds_toArray, List.set_cons_zero, List.set_cons_succ, arr_getD, List.getD_cons_zero, List.getD_cons_succ]
          exact hK'
      iterate 1
        apply Flow.calm2 _ _ rfl rfl
        · intro w' hb' K' hK'
          obtain ⟨hc', hf'⟩ := hb'.rule
          go_simp
          try go_ints
          exact hK'
        · intro K' hK'
          simp only [Act.put, List.setIfInBounds_toArray, List.set_cons_zero, List.set_cons_succ]
          exact hK'
      iterate 1
        apply Flow.calm2 _ _ rfl rfl
        · intro w' hb' K' hK'
          obtain ⟨hc', hf'⟩ := hb'.rule
          go_simp
          try go_ints
          exact hK'
        · intro K' hK'
          simp only [Act.put, List.setIfInBounds_toArray, List.set_cons_zero, List.set_cons_succ]
          exact hK'
      iterate 1
        apply Flow.calm2 _ _ rfl rfl
        · intro w' hb' K' hK'
          obtain ⟨hc', hf'⟩ := hb'.rule
          go_simp
          try go_ints
          exact hK'
        · intro K' hK'
          simp only [Act.put, List.setIfInBounds_toArray, List.set_cons_zero, List.set_cons_succ]
          exact hK'
      apply Flow.move rfl
      go_wp2_with fail
      refine (Hco.out _).mono ?_
      rintro e w8 ⟨rfl, hw8⟩
      subst hw8
      have HB1 := Bl.refl w
      go_wp2_with fail
      refine ⟨fun _ => (by first | exact HB1 | exact Bl.refl _), ?_⟩
      iterate 1
        apply Flow.calm2 _ _ rfl rfl
        · intro w' hb' K' hK'
          obtain ⟨hc', hf'⟩ := hb'.rule
          go_simp
          try go_ints
          exact hK'
        · intro K' hK'
          simp only [Act.put, List.setIfInBounds_toArray, List.set_cons_zero, List.set_cons_succ]
          exact hK'
      refine Flow.done ?_
      have HB8 := Lib.hid ((hb23.trans hb3).drew)
      clear Hco
      cases hcz : (C == Z) with
      | true =>
        have HR2 := Lib.hid (HRd.out.trans (if_pos (by simpa using hcz)))
        have HF := Lib.hid (show eitherG rd39 m = (B, 0) by rw [HE.out, HR2.out])
        clear HRd
        go_wp2_with fail
        exact bodyPost_ret (v := .tuple #[.string ⟨B.toArray⟩, .int .i64 0]) (by simp [results, Tryz.results49, go_sem]; try exact hexb) rfl ⟨by rw [HF.out], HB8.out⟩
      | false =>
        have HR2 := Lib.hid (HRd.out.trans (if_neg (by simpa using hcz)))
        have HF := Lib.hid (show eitherG rd39 m = ([], 14) by rw [HE.out, HR2.out])
        clear HRd
        go_wp2_with fail
        exact bodyPost_ret (v := .tuple #[.string ⟨#[]⟩, .int .i64 14]) (by simp [results, Tryz.results49, go_sem]) rfl ⟨by rw [HF.out], HB8.out⟩
    · rw [ht] at Hr
      have HF := Lib.hid (HE.out.trans hr2)
      clear ht hr2
      go_wp2_with fail
      refine Hr.out.mono ?_
      rintro e w4 ⟨rfl, hb4⟩
      clear k3 Hr
      go_wp2_with fail
      rw [rounds_succ]
      go_wp2_with fail
      exact bodyPost_ret (v := .tuple #[.string ⟨#[]⟩, .int .i64 2]) (by simp [results, Tryz.results49, go_sem]) rfl ⟨by rw [HF.out], hb23.trans hb4⟩

end Go.Proofs.YtkipcobpnecmhaaGreatDoor
