/- The law LettersMatch answers true. -/
import Derived.Test.YtpjemcfcheijkaaDoorMClaimLetters34

namespace Go.Proofs.YtpjemcfcheijkaaDoor
open Go.RowKit Go.Shelf

set_option maxRecDepth 100000 in
set_option maxHeartbeats 2000000 in
theorem eitherW_any (g : Nat) (rd : List UInt8 → List UInt8 × Int) (eg : ∀ args w, (callFunc g args).run Tryd.prog w = .ok (.enter g args) w) (M : Nat) (hM : M ≤ 9223372036854775807)
    (w : World) (hr : ∀ (m : List UInt8) (W : World), m.length ≤ M → Bl w W → Calls Tryd.prog g #[.string ⟨m.toArray⟩] W fun e w' => e = .returned (.tuple #[.string ⟨(rd m).1.toArray⟩, .int .i64 (rd m).2]) ∧ Bl W w')
    (m : List UInt8) (hl : m.length ≤ M) :
    Calls Tryd.prog 65 #[.string ⟨m.toArray⟩, .func (.func g) #[] #[]] w fun e w' => e = .returned (.tuple #[.string ⟨(eitherG rd m).1.toArray⟩, .int .i64 (eitherG rd m).2]) ∧ Bl w w' := by
  have H1 := Lib.hid (hr m)
  have H2 := Lib.hid (hr m.reverse)
  have hb := fun wx => backwards_any m wx (by omega)
  unfold FlipRes at hb
  have Hb := Lib.hid hb
  obtain ⟨a, ha⟩ : ∃ a, a = (rd m).1 := ⟨_, rfl⟩
  obtain ⟨e1, he1⟩ : ∃ a, a = (rd m).2 := ⟨_, rfl⟩
  rw [← ha, ← he1] at H1
  obtain ⟨b, hb2⟩ : ∃ a, a = (rd m.reverse).1 := ⟨_, rfl⟩
  obtain ⟨e2, he2⟩ : ∃ a, a = (rd m.reverse).2 := ⟨_, rfl⟩
  rw [← hb2, ← he2] at H2
  obtain ⟨r, hrv⟩ : ∃ r, r = m.reverse := ⟨_, rfl⟩
  have hrl : r.length ≤ M := by rw [hrv, List.length_reverse]; exact hl
  by_cases hq : e1 = 2
  · have hE : eitherG rd m = rd m.reverse := by unfold eitherG; rw [← he1, if_pos hq]
    have HA := Lib.hid (show (eitherG rd m).1 = b from by rw [hE, hb2])
    have HB := Lib.hid (show (eitherG rd m).2 = e2 from by rw [hE, he2])
    rw [← hrv] at Hb H2
    subst hq
    clear hE ha he1 hb2 he2 hb hr hrv
    go_enter Tryd.func65, Tryd.ntmps65
    go_wp2_with fail
    refine (H1.out _ hl (Bl.refl _)).mono ?_
    rintro e w1 ⟨rfl, hb1⟩
    go_wp2_with fail
    refine (Hb.out _).mono ?_
    rintro e w2 ⟨rfl, hb2⟩
    go_wp2_with fail
    refine (H2.out _ hrl (hb1.trans hb2)).mono ?_
    rintro e w3 ⟨rfl, hb3⟩
    go_wp2_with fail
    exact bodyPost_ret (v := .tuple #[.string ⟨b.toArray⟩, .int .i64 e2]) (by simp [results, Tryd.results65, go_sem]) rfl ⟨by rw [HA.out, HB.out], (hb1.trans hb2).trans hb3⟩
  · have hE : eitherG rd m = rd m := by unfold eitherG; rw [← he1, if_neg hq]
    have HA := Lib.hid (show (eitherG rd m).1 = a from by rw [hE, ha])
    have HB := Lib.hid (show (eitherG rd m).2 = e1 from by rw [hE, he1])
    have hqb : (e1 == 2) = false := by rw [beq_eq_false_iff_ne]; exact hq
    clear hE ha he1 hb2 he2 hb hr hrv hq
    go_enter Tryd.func65, Tryd.ntmps65
    go_wp2_with fail
    refine (H1.out _ hl (Bl.refl _)).mono ?_
    rintro e w1 ⟨rfl, hb1⟩
    go_wp2_with fail
    exact bodyPost_ret (v := .tuple #[.string ⟨a.toArray⟩, .int .i64 e1]) (by simp [results, Tryd.results65, go_sem]) rfl ⟨by rw [HA.out, HB.out], hb1⟩
set_option maxRecDepth 100000 in
theorem read39x_any (m : List UInt8) (w : World) (hl : m.length ≤ 1048576) (hT : SpOk w) :
    Calls Tryd.prog 40 #[.string ⟨m.toArray⟩] w fun e w' => e = .returned (.tuple #[.string ⟨(eitherG rd39 m).1.toArray⟩, .int .i64 (eitherG rd39 m).2]) ∧ Bl w w' := by
  have H := Lib.hid (eitherW_any 85 rd39 (enters Tryd.func85 (by kernel_rfl) rfl) 1048576 (by decide) w (fun m W h hb => read39_any m W h (hT.bl hb)) m hl)
  obtain ⟨a, ha⟩ : ∃ a, a = (eitherG rd39 m).1 := ⟨_, rfl⟩
  obtain ⟨e1, he1⟩ : ∃ a, a = (eitherG rd39 m).2 := ⟨_, rfl⟩
  rw [← ha, ← he1] at H ⊢
  clear ha he1 hT
  go_enter Tryd.func40, Tryd.ntmps40
  go_wp2_with fail
  refine H.out.mono ?_
  rintro e w1 ⟨rfl, hb1⟩
  go_wp2_with fail
  exact bodyPost_ret (v := .tuple #[.string ⟨a.toArray⟩, .int .i64 e1]) (by simp [results, Tryd.results40, go_sem]) rfl ⟨rfl, hb1⟩
theorem outR_mem {s T : List UInt8} (h : outR s = some T) : ∀ c ∈ T, c ∈ lets44 := by
  unfold outR at h
  by_cases hl : lenOK s = true
  · rw [if_pos hl] at h
    obtain ⟨ks, hk, rfl⟩ := Option.map_eq_some_iff.1 h
    exact txt_mem (decP_lt hk)
  · rw [if_neg hl] at h; cases h
theorem t39_cases (s : List UInt8) : (∃ T, outR s = some T ∧ shpT T = true) ∨ (t39 s = ([], false) ∧ rd39 s = ([], 2)) := by
  cases h : outR s with
  | none => exact .inr ⟨t39_none h, rd_none h⟩
  | some T =>
    cases hs : shpT T with
    | true => exact .inl ⟨T, rfl, hs⟩
    | false => exact .inr ⟨t39_shape h hs, rd_shape h hs⟩
theorem shp_len {T : List UInt8} (h : shpT T = true) : 4 ≤ T.length ∧ T.length ≤ 43 := by
  unfold shpT at h
  simp only [Bool.and_eq_true, decide_eq_true_eq] at h
  exact ⟨h.1, h.2.1⟩
/-- What is wanted of the text between the stars. -/
structure Mid (s Y B Z : List UInt8) : Prop where
  t : t39 s = (Y, true)
  cat : Y = B ++ Z
  lz : Z.length = 1
  lb : B.length ≤ 40
  lb1 : 1 ≤ B.length
  ok : lettersOk B = true
  rd : rd39 s = if chkL B = Z then (B, 0) else ([], 14)
theorem mid_of {s T : List UInt8} (h : outR s = some T) (hs : shpT T = true) : Mid s (midT T) (bodyT T) (lastT T) := by
  obtain ⟨h4, h43⟩ := shp_len hs
  obtain ⟨b1, b2, b3, b4⟩ := body_ok (outR_mem h) hs
  have hv : letVal (bodyT T) = chkL (bodyT T) := by unfold letVal; rw [b4]; rfl
  exact ⟨t39_some h hs, (body_mid h4).2, by unfold lastT; rw [List.length_take, List.length_drop]; omega, b3, b2, b1, by rw [rd_some h hs, hv]⟩
theorem eitherR_two {s : List UInt8} (h : rd39 s = ([], 2)) : eitherG rd39 s = rd39 s.reverse := by unfold eitherG; rw [h, if_pos rfl]
theorem eitherR_not {s : List UInt8} (h : (rd39 s).2 ≠ 2) : eitherG rd39 s = rd39 s := by unfold eitherG; rw [if_neg h]
set_option maxRecDepth 100000 in
set_option maxHeartbeats 8000000 in
theorem read39Of_any (m : List UInt8) (w : World) (hl : m.length ≤ 1048576) (hT : SpOk w) :
    Calls Tryd.prog 41 #[.string ⟨m.toArray⟩] w fun e w' => e = .returned (.tuple #[.string ⟨(eitherG rd39 m).1.toArray⟩, .int .i64 (eitherG rd39 m).2]) ∧ Bl w w' := by
  have hf := flip_any m w (by omega)
  unfold FlipRes at hf
  have Hf := Lib.hid hf
  have HT := Lib.hid hT
  have hrl : m.reverse.length ≤ 1048576 := by rw [List.length_reverse]; exact hl
  obtain ⟨r, hr⟩ : ∃ r, r = m.reverse := ⟨_, rfl⟩
  rw [← hr] at Hf hrl
  have HRv := Lib.hid hr
  clear hf hT hr
  go_enter Tryd.func41, Tryd.ntmps41
  go_wp2_with fail
  refine Hf.out.mono ?_
  rintro e w1 ⟨rfl, hb1⟩
  clear Hf
  go_wp2_with fail
  have hbk := Blk.new w1 9 #[.string ⟨m.toArray⟩, .string ⟨r.toArray⟩]
  have hb2 : Bl w (w1.alloc (.cells #[.string ⟨m.toArray⟩, .string ⟨r.toArray⟩] 9)) := hb1.alloc _
  obtain ⟨kb, hkb⟩ : ∃ k, k = w1.heap.size := ⟨_, rfl⟩
  rw [← hkb] at hbk ⊢
  generalize w1.alloc (.cells #[.string ⟨m.toArray⟩, .string ⟨r.toArray⟩] 9) = w2 at hbk hb2 ⊢
  have k1 := hbk.all2
  have HBk := Lib.hid hbk
  have Hm := Lib.hid (text39_any m w2 hl (HT.out.bl hb2))
  clear hkb hb1 hbk
  refine wp_loop_rounds 3 ?_
  rw [rounds_succ]
  rcases t39_cases m with ⟨T, hT1, hT2⟩ | ⟨ht, hr2⟩
  · obtain ⟨Y, B, Z, M⟩ : ∃ Y B Z, Mid m Y B Z := ⟨_, _, _, mid_of hT1 hT2⟩
    have hY : Y.length = B.length + 1 := by rw [M.cat, List.length_append, M.lz]
    obtain ⟨n, hn⟩ : ∃ n, n = B.length := ⟨_, rfl⟩
    have hexb : (⟨Y.toArray⟩ : ByteArray).extract 0 n = ⟨B.toArray⟩ := by
      rw [slice_ab, M.cat, List.drop_zero, Nat.sub_zero, List.take_left' hn.symm]
    have hexz : (⟨Y.toArray⟩ : ByteArray).extract n Y.length = ⟨Z.toArray⟩ := by
      rw [extract_drop, M.cat, List.drop_left' hn.symm]
    have hYI : (Y.length : Int) - 1 = (n : Int) := by omega
    have hn0 : (0 : Int) ≤ (n : Int) := by omega
    have hn40 : n ≤ 40 := by rw [hn]; exact M.lb
    have hnI40 : (n : Int) ≤ 40 := by omega
    have hYl : Y.length ≤ 41 := by omega
    have hnY : (n : Int) ≤ (Y.length : Int) := by omega
    have hsY : (⟨Y.toArray⟩ : ByteArray).size = Y.length := Lib.size_mk Y
    have hco := fun wx => checkLetterOf_any B wx (by have := M.lb; omega) M.ok
    obtain ⟨C, hC⟩ : ∃ C, C = chkL B := ⟨_, rfl⟩
    have hrd := M.rd
    rw [← hC] at hco hrd
    have Hco := Lib.hid hco; have HRd := Lib.hid hrd; have HMt := Lib.hid M.t
    clear hY hn hco hC hrd M
    go_wp2_with fail
    refine Hm.out.mono ?_
    rw [HMt.out]
    rintro e w3 ⟨rfl, hb3⟩
    clear Hm
    go_upto_region 7 with fail
    refine wp_region_flow [(true, 0), (true, 2), (true, 3), (true, 4), (true, 5), (true, 6), (false, 1), (true, 7)] (fun _ => false) (by kernel_rfl) (by kernel_rfl) (by kernel_rfl) (by kernel_rfl) ?_
    iterate 3
      apply Flow.mv _ rfl
      · intro K' hK'
        simp only [Act.put, Act.eval, List.setIfInBounds_toArray, List.set_cons_zero, List.set_cons_succ, arr_getD, List.getD_cons_zero, List.getD_cons_succ]
        exact hK'
    iterate 1
      apply Flow.calm2 _ _ rfl rfl
      · intro w' hb' K' hK'
        obtain ⟨hc', hf'⟩ := hb'.rule
        go_simp
        try go_ints
        exact hK'
      · intro K' hK'
        simp only [Act.put, List.setIfInBounds_toArray, List.set_cons_zero, List.set_cons_succ]
        exact hK'
    iterate 1
      apply Flow.calm2 _ _ rfl rfl
      · intro w' hb' K' hK'
        obtain ⟨hc', hf'⟩ := hb'.rule
        go_simp
        try go_ints
        exact hK'
      · intro K' hK'
        simp only [Act.put, List.setIfInBounds_toArray, List.set_cons_zero, List.set_cons_succ]
        exact hK'
    iterate 1
      apply Flow.calm2 _ _ rfl rfl
      · intro w' hb' K' hK'
        obtain ⟨hc', hf'⟩ := hb'.rule
        go_simp
        try go_ints
        exact hK'
      · intro K' hK'
        simp only [Act.put, List.setIfInBounds_toArray, List.set_cons_zero, List.set_cons_succ]
        exact hK'
    apply Flow.move rfl
    go_wp2_with fail
    refine (Hco.out _).mono ?_
    rintro e w8 ⟨rfl, hw8⟩
    subst hw8
    have HB1 := Bl.refl w
    go_wp2_with fail
    refine ⟨fun _ => (by first | exact HB1 | exact Bl.refl _), ?_⟩
    iterate 1
      apply Flow.calm2 _ _ rfl rfl
      · intro w' hb' K' hK'
        obtain ⟨hc', hf'⟩ := hb'.rule
        go_simp
        try go_ints
        exact hK'
      · intro K' hK'
        simp only [Act.put, List.setIfInBounds_toArray, List.set_cons_zero, List.set_cons_succ]
        exact hK'
    refine Flow.done ?_
    have HB8 := Lib.hid ((hb2.trans hb3).drew)
    clear Hco
    cases hcz : (C == Z) with
    | true =>
      have HR2 := Lib.hid (HRd.out.trans (if_pos (by simpa using hcz)))
      have HF := Lib.hid (show eitherG rd39 m = (B, 0) by rw [eitherR_not (by rw [HR2.out]; exact (by decide : (0 : Int) ≠ 2)), HR2.out])
      clear HRd
      go_wp2_with fail
      exact bodyPost_ret (v := .tuple #[.string ⟨B.toArray⟩, .int .i64 0]) (by simp [results, Tryd.results41, go_sem]; try exact hexb) rfl ⟨by rw [HF.out], HB8.out⟩
    | false =>
      have HR2 := Lib.hid (HRd.out.trans (if_neg (by simpa using hcz)))
      have HF := Lib.hid (show eitherG rd39 m = ([], 14) by rw [eitherR_not (by rw [HR2.out]; exact (by decide : (14 : Int) ≠ 2)), HR2.out])
      clear HRd
      go_wp2_with fail
      exact bodyPost_ret (v := .tuple #[.string ⟨#[]⟩, .int .i64 14]) (by simp [results, Tryd.results41, go_sem]) rfl ⟨by rw [HF.out], HB8.out⟩
  · rw [ht] at Hm
    have HE := Lib.hid ((eitherR_two hr2).trans (by rw [← HRv.out]))
    clear ht hr2
    go_wp2_with fail
    refine Hm.out.mono ?_
    rintro e w3' ⟨rfl, hb3'⟩
    have hb23 := hb2.trans hb3'
    have Hr := Lib.hid (text39_any r w3' hrl (HT.out.bl hb23))
    have k3 := (HBk.out.bl hb3').all2
    clear k1 Hm hb2
    go_wp2_with fail
    rw [rounds_succ]
    rcases t39_cases r with ⟨T, hT1, hT2⟩ | ⟨ht, hr2⟩
    · obtain ⟨Y, B, Z, M⟩ : ∃ Y B Z, Mid r Y B Z := ⟨_, _, _, mid_of hT1 hT2⟩
      have hY : Y.length = B.length + 1 := by rw [M.cat, List.length_append, M.lz]
      obtain ⟨n, hn⟩ : ∃ n, n = B.length := ⟨_, rfl⟩
      have hexb : (⟨Y.toArray⟩ : ByteArray).extract 0 n = ⟨B.toArray⟩ := by
        rw [slice_ab, M.cat, List.drop_zero, Nat.sub_zero, List.take_left' hn.symm]
      have hexz : (⟨Y.toArray⟩ : ByteArray).extract n Y.length = ⟨Z.toArray⟩ := by
        rw [extract_drop, M.cat, List.drop_left' hn.symm]
      have hYI : (Y.length : Int) - 1 = (n : Int) := by omega
      have hn0 : (0 : Int) ≤ (n : Int) := by omega
      have hn40 : n ≤ 40 := by rw [hn]; exact M.lb
      have hnI40 : (n : Int) ≤ 40 := by omega
      have hYl : Y.length ≤ 41 := by omega
      have hnY : (n : Int) ≤ (Y.length : Int) := by omega
      have hsY : (⟨Y.toArray⟩ : ByteArray).size = Y.length := Lib.size_mk Y
      have hco := fun wx => checkLetterOf_any B wx (by have := M.lb; omega) M.ok
      obtain ⟨C, hC⟩ : ∃ C, C = chkL B := ⟨_, rfl⟩
      have hrd := M.rd
      rw [← hC] at hco hrd
      have Hco := Lib.hid hco; have HRd := Lib.hid hrd; have HMt := Lib.hid M.t
      clear hY hn hco hC hrd M
      go_wp2_with fail
      refine Hr.out.mono ?_
      rw [HMt.out]
      rintro e w3 ⟨rfl, hb3⟩
      clear Hr
      go_upto_region 7 with fail
      refine wp_region_flow [(true, 0), (true, 2), (true, 3), (true, 4), (true, 5), (true, 6), (false, 1), (true, 7)] (fun _ => false) (by kernel_rfl) (by kernel_rfl) (by kernel_rfl) (by kernel_rfl) ?_
      iterate 3
        apply Flow.mv _ rfl
        · intro K' hK'
          simp only [Act.put, Act.eval, List.setIfInBounds_toArray, List.set_cons_zero, List.set_cons_succ, arr_getD, List.getD_cons_zero, List.getD_cons_succ]
          exact hK'
      iterate 1
        apply Flow.calm2 _ _ rfl rfl
        · intro w' hb' K' hK'
          obtain ⟨hc', hf'⟩ := hb'.rule
          go_simp
          try go_ints
          exact hK'
        · intro K' hK'
          simp only [Act.put, List.setIfInBounds_toArray, List.set_cons_zero, List.set_cons_succ]
          exact hK'
      iterate 1
        apply Flow.calm2 _ _ rfl rfl
        · intro w' hb' K' hK'
          obtain ⟨hc', hf'⟩ := hb'.rule
          go_simp
          try go_ints
          exact hK'
        · intro K' hK'
          simp only [Act.put, List.setIfInBounds_toArray, List.set_cons_zero, List.set_cons_succ]
          exact hK'
      iterate 1
        apply Flow.calm2 _ _ rfl rfl
        · intro w' hb' K' hK'
          obtain ⟨hc', hf'⟩ := hb'.rule
          go_simp
          try go_ints
          exact hK'
        · intro K' hK'
          simp only [Act.put, List.setIfInBounds_toArray, List.set_cons_zero, List.set_cons_succ]
          exact hK'
      apply Flow.move rfl
      go_wp2_with fail
      refine (Hco.out _).mono ?_
      rintro e w8 ⟨rfl, hw8⟩
      subst hw8
      have HB1 := Bl.refl w
      go_wp2_with fail
      refine ⟨fun _ => (by first | exact HB1 | exact Bl.refl _), ?_⟩
      iterate 1
        apply Flow.calm2 _ _ rfl rfl
        · intro w' hb' K' hK'
          obtain ⟨hc', hf'⟩ := hb'.rule
          go_simp
          try go_ints
          exact hK'
        · intro K' hK'
          simp only [Act.put, List.setIfInBounds_toArray, List.set_cons_zero, List.set_cons_succ]
          exact hK'
      refine Flow.done ?_
      have HB8 := Lib.hid ((hb23.trans hb3).drew)
      clear Hco
      cases hcz : (C == Z) with
      | true =>
        have HR2 := Lib.hid (HRd.out.trans (if_pos (by simpa using hcz)))
        have HF := Lib.hid (show eitherG rd39 m = (B, 0) by rw [HE.out, HR2.out])
        clear HRd
        go_wp2_with fail
        exact bodyPost_ret (v := .tuple #[.string ⟨B.toArray⟩, .int .i64 0]) (by simp [results, Tryd.results41, go_sem]; try exact hexb) rfl ⟨by rw [HF.out], HB8.out⟩
      | false =>
        have HR2 := Lib.hid (HRd.out.trans (if_neg (by simpa using hcz)))
        have HF := Lib.hid (show eitherG rd39 m = ([], 14) by rw [HE.out, HR2.out])
        clear HRd
        go_wp2_with fail
        exact bodyPost_ret (v := .tuple #[.string ⟨#[]⟩, .int .i64 14]) (by simp [results, Tryd.results41, go_sem]) rfl ⟨by rw [HF.out], HB8.out⟩
    · rw [ht] at Hr
      have HF := Lib.hid (HE.out.trans hr2)
      clear ht hr2
      go_wp2_with fail
      refine Hr.out.mono ?_
      rintro e w4 ⟨rfl, hb4⟩
      clear k3 Hr
      go_wp2_with fail
      rw [rounds_succ]
      go_wp2_with fail
      exact bodyPost_ret (v := .tuple #[.string ⟨#[]⟩, .int .i64 2]) (by simp [results, Tryd.results41, go_sem]) rfl ⟨by rw [HF.out], hb23.trans hb4⟩

end Go.Proofs.YtpjemcfcheijkaaDoor


/-! Code 39 in plain lists: what is drawn of a text is read as this text, also backwards. -/
namespace Go.Proofs.YtpjemcfcheijkaaDoor
open Go.RowKit

set_option maxRecDepth 100000 in
theorem modK_made : ∀ k < 44, madeOf (modK k) [48, 49] = true := by decide +kernel
theorem made_app {a b cs : List UInt8} (h1 : madeOf a cs = true) (h2 : madeOf b cs = true) : madeOf (a ++ b) cs = true := by
  unfold madeOf at h1 h2 ⊢
  rw [List.all_append, h1, h2]
  rfl
theorem joinC_made : ∀ {ks : List Nat}, (∀ k ∈ ks, k < 44) → madeOf (joinC ks) [48, 49] = true
  | [], _ => rfl
  | [k], h => modK_made k (h k (List.mem_cons_self ..))
  | k :: k' :: ks, h => by
    have ih := joinC_made (ks := k' :: ks) (fun x hx => h x (List.mem_cons_of_mem _ hx))
    show madeOf (modK k ++ 48 :: joinC (k' :: ks)) [48, 49] = true
    exact made_app (modK_made k (h k (List.mem_cons_self ..))) (by
      show (([48, 49] : List UInt8).contains 48 && madeOf (joinC (k' :: ks)) [48, 49]) = true
      rw [ih]
      rfl)
set_option maxRecDepth 100000 in
theorem num_back : ∀ c ∈ lets44, lets44.getD (num44 c) 0 = c := by decide +kernel
theorem txt_whole {l : List UInt8} (h : lettersOk l = true) : txt (ksL l) = wholeL l := by
  unfold txt ksL
  rw [List.map_map]
  conv => rhs; rw [← List.map_id (wholeL l)]
  exact List.map_congr_left fun c hc => num_back c (whole_mem h c hc)
theorem ksL_ne (l : List UInt8) : ksL l ≠ [] := by unfold ksL wholeL; simp
theorem outR_code {l : List UInt8} (h : lettersOk l = true) : outR (code39 l) = some (wholeL l) := by
  show outR (joinC (ksL l)) = _
  rw [outR_made (joinC_made (ksL_lt h))]
  rw [decM_join (ksL_ne l) (ksL_lt h), ← txt_whole h]
  rfl
theorem no_star {l : List UInt8} (h : lettersOk l = true) : (42 : UInt8) ∉ l ++ chkL l := by
  have hs : (42 : UInt8) ∉ lets43 := by decide
  intro hm
  rcases List.mem_append.1 hm with hm | hm
  · have := List.all_eq_true.1 h _ hm
    unfold isLet at this
    exact hs (by simpa using this)
  · unfold chkL at hm
    have : ∀ r < 43, lets44.getD r 0 ≠ 42 := by decide +kernel
    exact this _ (Nat.mod_lt (sumL l l.length) (by decide)) (List.mem_singleton.1 hm).symm
theorem whole_parts (l : List UInt8) : midT (wholeL l) = l ++ chkL l ∧ bodyT (wholeL l) = l ∧ lastT (wholeL l) = chkL l ∧ (wholeL l).getD 0 0 = 42 ∧ (wholeL l).getD ((wholeL l).length - 1) 0 = 42 := by
  have hl := whole_len l
  obtain ⟨x, hx⟩ : ∃ x, chkL l = [x] := ⟨_, rfl⟩
  have hw : wholeL l = 42 :: (l ++ [x] ++ [42]) := by unfold wholeL; rw [hx]
  refine ⟨?_, ?_, ?_, rfl, ?_⟩
  · unfold midT
    rw [hl, hw, hx]
    show (l ++ [x] ++ [42]).take (l.length + 3 - 2) = _
    rw [List.take_left' (by simp)]
  · unfold bodyT
    rw [hl, hw]
    show (l ++ [x] ++ [42]).take (l.length + 3 - 3) = _
    rw [List.append_assoc, List.take_left' (by simp)]
  · unfold lastT
    rw [hl, hw, hx, show l.length + 3 - 2 = l.length + 1 by omega]
    show ((l ++ [x] ++ [42]).drop l.length).take 1 = _
    rw [List.append_assoc, List.drop_left' rfl]
    rfl
  · rw [hl, hw, List.getD_eq_getElem?_getD, show l.length + 3 - 1 = (l ++ [x]).length + 1 by simp]
    rw [List.getElem?_cons_succ, List.getElem?_append_right (Nat.le_refl _), Nat.sub_self]
    rfl
theorem letErr_ok {l : List UInt8} (h : letErr l = 0) : lettersOk l = true ∧ 1 ≤ l.length ∧ l.length ≤ 40 := by
  unfold letErr at h
  by_cases a : l = []
  · rw [if_pos a] at h; cases h
  · rw [if_neg a] at h
    by_cases b : 40 < l.length
    · rw [if_pos b] at h; cases h
    · rw [if_neg b] at h
      refine ⟨?_, List.length_pos_iff.2 a, by omega⟩
      cases hx : lettersOk l with
      | true => rfl
      | false => rw [hx] at h; cases h
theorem shp_whole {l : List UInt8} (h : letErr l = 0) : shpT (wholeL l) = true := by
  obtain ⟨hok, h1, h40⟩ := letErr_ok h
  obtain ⟨p1, p2, p3, p4, p5⟩ := whole_parts l
  unfold shpT
  rw [p1, p4, p5, whole_len, decide_eq_true (by omega), decide_eq_true (by omega)]
  have : (l ++ chkL l).contains 42 = false := by
    have := no_star hok
    simpa using this
  rw [this]
  rfl
theorem rd_code {l : List UInt8} (h : letErr l = 0) : rd39 (code39 l) = (l, 0) := by
  obtain ⟨hok, h1, h40⟩ := letErr_ok h
  obtain ⟨p1, p2, p3, p4, p5⟩ := whole_parts l
  rw [rd_some (outR_code hok) (shp_whole h), p2, p3]
  unfold letVal
  rw [if_pos h, if_pos rfl]
set_option maxRecDepth 100000 in
theorem star_back : (modK 43).reverse = modK 25 := by decide +kernel
theorem code_last (l : List UInt8) : ∃ A, code39 l = A ++ modK 43 := by
  have hn : num44 42 = 43 := by decide +kernel
  have hk : ksL l = (num44 42 :: (l ++ chkL l).map num44) ++ [43] := by
    unfold ksL wholeL
    rw [List.map_cons, List.map_append, ← hn]
    rfl
  unfold code39
  rw [hk, joinC_Z, List.map_append]
  show ∃ A, joinZ ((num44 42 :: (l ++ chkL l).map num44).map modK ++ [modK 43]) = A ++ modK 43
  rw [joinZ_append _ _ (by simp)]
  exact ⟨joinZ (List.map modK (num44 42 :: List.map num44 (l ++ chkL l))) ++ [48], by rw [List.append_assoc]; rfl⟩
theorem rd_flip (l : List UInt8) : rd39 (code39 l).reverse = ([], 2) := by
  rcases t39_cases (code39 l).reverse with ⟨T, hT1, hT2⟩ | ⟨-, h⟩
  · exfalso
    obtain ⟨A, hA⟩ := code_last l
    have hmd : madeOf (code39 l).reverse [48, 49] = true := by
      cases hx : madeOf (code39 l).reverse [48, 49] with
      | true => rfl
      | false => rw [outR_not hx] at hT1; cases hT1
    rw [outR_made hmd] at hT1
    obtain ⟨ks, hks, rfl⟩ := Option.map_eq_some_iff.1 hT1
    have hne := decM_ne hks
    obtain ⟨k, ks', rfl⟩ : ∃ k ks', ks = k :: ks' := by
      cases ks with
      | nil => exact absurd rfl hne
      | cons k ks' => exact ⟨k, ks', rfl⟩
    obtain ⟨-, hk, hg⟩ := (gR_iff _ _ _).1 (((decM_iff _ _).1 hks).2 0 k rfl)
    rw [hA, List.reverse_append, star_back] at hg
    have hg2 : (modK 25 ++ A.reverse).take 15 = modK k := hg
    rw [List.take_left' (modK_all 25 (by decide)).1] at hg2
    obtain rfl := modK_inj k hk 25 (by decide) hg2.symm
    unfold shpT at hT2
    simp only [Bool.and_eq_true, beq_iff_eq] at hT2
    have := hT2.2.2.1
    have h80 : (txt (25 :: ks')).getD 0 0 = 80 := rfl
    rw [h80] at this
    cases this
  · exact h
theorem code_read {l : List UInt8} (h : letErr l = 0) : eitherG rd39 (code39 l) = (l, 0) ∧ eitherG rd39 (code39 l).reverse = (l, 0) := by
  constructor
  · rw [eitherR_not (by rw [rd_code h]; exact (by decide : (0 : Int) ≠ 2)), rd_code h]
  · rw [eitherR_two (rd_flip l), List.reverse_reverse, rd_code h]

end Go.Proofs.YtpjemcfcheijkaaDoor


/-! The law LettersMatch answers true. -/
namespace Go.Proofs.YtpjemcfcheijkaaDoor
open Go.RowKit Go.Shelf

set_option maxRecDepth 100000 in
set_option maxHeartbeats 8000000 in
theorem lawLetters_any (l q : List UInt8) (w : World) (hl : l.length ≤ 1048576) (hql : q.length ≤ 1048576) (hT : SpOk w) :
    Calls Tryd.prog 6 #[.string ⟨l.toArray⟩, .string ⟨q.toArray⟩] w fun e w' => e = .returned (.bool true) ∧ Bl w w' := by
  have HT := Lib.hid hT
  have hsz : (⟨l.toArray⟩ : ByteArray).size = l.length := Lib.size_mk l
  have hcl := fun wx => checkLet_any l wx (by omega)
  have hcc := fun wx h => code39_any l wx (by omega) h
  have hle := fun wx => letterError_any l wx (by omega)
  have Hr1 := Lib.hid (fun wx h => read39x_any q wx hql h)
  have Hr2 := Lib.hid (fun wx h => read39Of_any q wx hql h)
  obtain ⟨ra, hra⟩ : ∃ x, x = (eitherG rd39 q).1 := ⟨_, rfl⟩
  obtain ⟨rb, hrb⟩ : ∃ x, x = (eitherG rd39 q).2 := ⟨_, rfl⟩
  rw [← hra, ← hrb] at Hr1 Hr2
  clear hra hrb hT
  by_cases h0 : letErr l = 0
  · obtain ⟨hok, h1, h40⟩ := letErr_ok h0
    have hv : letVal l = chkL l := by unfold letVal; rw [if_pos h0]
    have hc : codeRes l = code39 l := by unfold codeRes; rw [if_pos h0]
    have hrd := code_read h0
    have hcl39 := code39_len hok
    simp only [h0, hv, hc] at hcl hcc hle
    have hco := fun wx => checkLetterOf_any l wx (by omega) hok
    have hcf := fun wx h => code39Of_any l wx h40 hok h
    obtain ⟨C, hC⟩ : ∃ C, C = chkL l := ⟨_, rfl⟩
    obtain ⟨m, hm⟩ : ∃ m, m = code39 l := ⟨_, rfl⟩
    have hml : m.length ≤ 1048576 := by rw [hm]; omega
    rw [← hm] at hrd
    simp only [← hC] at hcl hco
    simp only [← hm] at hcc hcf
    have hrl : m.reverse.length ≤ 1048576 := by rw [List.length_reverse]; exact hml
    have Hm1 := Lib.hid (fun wx hw => show Calls Tryd.prog 40 #[.string ⟨m.toArray⟩] wx fun e w' => e = .returned (.tuple #[.string ⟨l.toArray⟩, .int .i64 0]) ∧ Bl wx w' from by have h := read39x_any m wx hml hw; rw [hrd.1] at h; exact h)
    have Hm2 := Lib.hid (fun wx hw => show Calls Tryd.prog 40 #[.string ⟨m.reverse.toArray⟩] wx fun e w' => e = .returned (.tuple #[.string ⟨l.toArray⟩, .int .i64 0]) ∧ Bl wx w' from by have h := read39x_any m.reverse wx hrl hw; rw [hrd.2] at h; exact h)
    have hfl := fun wx => flip_any m wx (by omega)
    unfold FlipRes at hfl
    obtain ⟨r, hr⟩ : ∃ r, r = m.reverse := ⟨_, rfl⟩
    rw [← hr] at Hm2 hfl
    have Hfl := Lib.hid hfl; have Hcl := Lib.hid hcl; have Hcc := Lib.hid hcc; have Hle := Lib.hid hle; have Hco := Lib.hid hco; have Hcf := Lib.hid hcf
    clear hfl hcl hcc hle hco hcf hr hm hC hv hc hrd hcl39 h0 hok hrl
    go_enter Tryd.func6, Tryd.ntmps6
    go_wp2_with fail
    refine (Hcl.out _).mono ?_
    rintro e w1 ⟨rfl, hb1⟩
    go_wp2_with fail
    refine (Hcc.out _ (HT.out.bl hb1)).mono ?_
    rintro e w2 ⟨rfl, hb2⟩
    have HB2 := Lib.hid (hb1.trans hb2)
    clear hb1 hb2 Hcl Hcc
    go_wp2_with fail
    refine (Hle.out _).mono ?_
    rintro e w3 ⟨rfl, hb3⟩
    have HB3 := Lib.hid (HB2.out.trans hb3)
    clear hb3 HB2 Hle
    go_wp2_with fail
    refine (bars_any _).mono ?_
    rintro e w4 ⟨rfl, hb4⟩
    have HB4 := Lib.hid (HB3.out.trans hb4)
    clear hb4 HB3
    go_wp2_with fail
    refine (Hco.out _).mono ?_
    rintro e w5 ⟨rfl, hw5⟩
    subst hw5
    go_wp2_with fail
    refine (Hcf.out _ (HT.out.bl HB4.out)).mono ?_
    rintro e w6 ⟨rfl, hb6⟩
    have HB6 := Lib.hid (HB4.out.trans hb6)
    clear hb6 HB4 Hco Hcf
    go_wp2_with fail
    refine (Hfl.out _).mono ?_
    rintro e w12 ⟨rfl, hb12⟩
    have HB12 := Lib.hid (HB6.out.trans hb12)
    clear hb12 HB6 Hfl
    go_wp2_with fail
    have hbk := Blk.new w12 9 #[.string ⟨m.toArray⟩, .string ⟨r.toArray⟩]
    have hb13 : Bl w (w12.alloc (.cells #[.string ⟨m.toArray⟩, .string ⟨r.toArray⟩] 9)) := HB12.out.alloc _
    obtain ⟨kb, hkb⟩ : ∃ k, k = w12.heap.size := ⟨_, rfl⟩
    rw [← hkb] at hbk ⊢
    generalize w12.alloc (.cells #[.string ⟨m.toArray⟩, .string ⟨r.toArray⟩] 9) = w13 at hbk hb13 ⊢
    have kc := hbk.all2
    have HBk := Lib.hid hbk; have HB13 := Lib.hid hb13
    clear hkb hb13 HB12 hbk
    refine wp_loop_rounds 3 ?_
    rw [rounds_succ]
    go_wp2_with fail
    refine (Hm1.out _ (HT.out.bl HB13.out)).mono ?_
    rintro e w15 ⟨rfl, hb15⟩
    have HB15 := Lib.hid hb15
    clear hb15 kc
    have kc := (HBk.out.bl HB15.out).all2
    go_wp2_with fail
    rw [rounds_succ]
    go_wp2_with fail
    refine (Hm2.out _ (HT.out.bl (HB13.out.trans HB15.out))).mono ?_
    rintro e w17 ⟨rfl, hb17⟩
    have HB17 := Lib.hid ((HB13.out.trans HB15.out).trans hb17)
    clear hb17 kc
    go_wp2_with fail
    rw [rounds_succ]
    go_wp2_with fail
    refine (Hr1.out _ (HT.out.bl HB17.out)).mono ?_
    rintro e w10 ⟨rfl, hb10⟩
    have HB10 := Lib.hid (HB17.out.trans hb10)
    clear hb10 Hr1
    go_wp2_with fail
    refine (Hr2.out _ (HT.out.bl HB10.out)).mono ?_
    rintro e w11 ⟨rfl, hb11⟩
    have HB11 := Lib.hid (HB10.out.trans hb11)
    clear hb11 Hr2
    go_wp2_with fail
    go_ret
    exact ⟨by simp, HB11.out⟩
  · have hv : letVal l = [] := by unfold letVal; rw [if_neg h0]
    have hc : codeRes l = [] := by unfold codeRes; rw [if_neg h0]
    simp only [hv, hc] at hcl hcc
    obtain ⟨ev, hev⟩ : ∃ e, e = letErr l := ⟨_, rfl⟩
    rw [← hev] at h0
    simp only [← hev] at hcl hcc hle
    have hq : (ev != 0) = true := by rw [bne_iff_ne]; exact h0
    have hqe : (ev == 0) = false := by rw [beq_eq_false_iff_ne]; exact h0
    have Hcl := Lib.hid hcl; have Hcc := Lib.hid hcc; have Hle := Lib.hid hle
    clear hcl hcc hle hv hc hev
    go_enter Tryd.func6, Tryd.ntmps6
    go_wp2_with fail
    refine (Hcl.out _).mono ?_
    rintro e w1 ⟨rfl, hb1⟩
    go_wp2_with fail
    refine (Hcc.out _ (HT.out.bl hb1)).mono ?_
    rintro e w2 ⟨rfl, hb2⟩
    have HB2 := Lib.hid (hb1.trans hb2)
    clear hb1 hb2 Hcl Hcc
    go_wp2_with fail
    refine (Hle.out _).mono ?_
    rintro e w3 ⟨rfl, hb3⟩
    have HB3 := Lib.hid (HB2.out.trans hb3)
    clear hb3 HB2 Hle
    go_wp2_with fail
    refine (bars_any _).mono ?_
    rintro e w4 ⟨rfl, hb4⟩
    have HB4 := Lib.hid (HB3.out.trans hb4)
    clear hb4 HB3
    go_wp2_with fail
    refine (Hr1.out _ (HT.out.bl HB4.out)).mono ?_
    rintro e w10 ⟨rfl, hb10⟩
    have HB10 := Lib.hid (HB4.out.trans hb10)
    clear hb10 Hr1
    go_wp2_with fail
    refine (Hr2.out _ (HT.out.bl HB10.out)).mono ?_
    rintro e w11 ⟨rfl, hb11⟩
    have HB11 := Lib.hid (HB10.out.trans hb11)
    clear hb11 Hr2
    go_wp2_with fail
    go_ret
    exact ⟨by simp, HB11.out⟩

end Go.Proofs.YtpjemcfcheijkaaDoor
