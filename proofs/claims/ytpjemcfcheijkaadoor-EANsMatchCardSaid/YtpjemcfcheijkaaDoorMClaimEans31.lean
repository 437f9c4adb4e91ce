/- The law EANsMatch answers true. -/
import Derived.Test.YtpjemcfcheijkaaDoorMClaimEans30

namespace Go.Proofs.YtpjemcfcheijkaaDoor
open Go.RowKit Go.Shelf

theorem made_take {l cs : List UInt8} (hm : madeOf l cs = true) (n : Nat) : madeOf (l.take n) cs = true := by
  unfold madeOf at hm ⊢
  rw [List.all_eq_true] at hm
  rw [List.all_eq_true]
  exact fun b hb => hm b (List.mem_of_mem_take hb)
theorem eitherG_some {m : List UInt8} (h : (readE m).2 ≠ 2) : eitherG readE m = readE m := by unfold eitherG; rw [if_neg h]
theorem eitherG_none {m : List UInt8} (h : digsE m = none) : eitherG readE m = readE m.reverse := by unfold eitherG; rw [read_none h, if_pos rfl]
set_option maxRecDepth 100000 in
set_option maxHeartbeats 4000000 in
theorem readEANOf_any (m : List UInt8) (w : World) (hl : m.length ≤ 9223372036854775807) (hT : SpOk w) :
    Calls Tryd.prog 30 #[.string ⟨m.toArray⟩] w fun e w' => e = .returned (.tuple #[.string ⟨(eitherG readE m).1.toArray⟩, .int .i64 (eitherG readE m).2]) ∧ Bl w w' := by
  have hf := flip_any m w hl
  unfold FlipRes at hf
  have Hf := Lib.hid hf
  have HT := Lib.hid hT
  have hrl : m.reverse.length ≤ 9223372036854775807 := by rw [List.length_reverse]; exact hl
  obtain ⟨r, hr⟩ : ∃ r, r = m.reverse := ⟨_, rfl⟩
  rw [← hr] at Hf hrl
  have HRv := Lib.hid hr
  clear hf hT hr
  go_enter Tryd.func30, Tryd.ntmps30
  go_wp2_with fail
  refine Hf.out.mono ?_
  rintro e w1 ⟨rfl, hb1⟩
  clear Hf
  go_wp2_with fail
  have hbk := Blk.new w1 9 #[.string ⟨m.toArray⟩, .string ⟨r.toArray⟩]
  have hb2 : Bl w (w1.alloc (.cells #[.string ⟨m.toArray⟩, .string ⟨r.toArray⟩] 9)) := hb1.alloc _
  obtain ⟨kb, hkb⟩ : ∃ k, k = w1.heap.size := ⟨_, rfl⟩
  rw [← hkb] at hbk ⊢
  generalize w1.alloc (.cells #[.string ⟨m.toArray⟩, .string ⟨r.toArray⟩] 9) = w2 at hbk hb2 ⊢
  have k1 := hbk.all2
  have HBk := Lib.hid hbk
  have Hm := Lib.hid (digitsOf_any m w2 hl (HT.out.bl hb2))
  clear hkb hb1 hbk
  refine wp_loop_rounds 3 ?_
  rw [rounds_succ]
  cases hd : digsE m with
  | some D =>
    have hg : digR m = (D, true) := by unfold digR; rw [hd]
    rw [hg] at Hm
    clear hg
    go_wp2_with fail
    refine Hm.out.mono ?_
    rintro e w3 ⟨rfl, hb3⟩
    clear k1 Hm
    obtain ⟨hD13, hDm⟩ := digs_digits hd
    have hsD : (⟨D.toArray⟩ : ByteArray).size = D.length := Lib.size_mk D
    have hD13I : (D.length : Int) = 13 := by omega
    have hck := fun wx => checkOfR_any (D.take 12) wx (by rw [List.length_take]; omega) (made_take hDm 12)
    have hex12 : (⟨D.toArray⟩ : ByteArray).extract 0 12 = ⟨(D.take 12).toArray⟩ := slice_ab D 0 12
    obtain ⟨b12, hg12, hb12, hd12⟩ := digit_byte hDm (i := 12) (by omega)
    obtain ⟨k1, k2⟩ := bytes_at hg12
    have hrd : readE m = if checkOf (D.take 12) = digOf D 12 then (D, 0) else ([], 14) := by unfold readE; rw [hd]
    obtain ⟨ck, hckk⟩ : ∃ ck, ck = checkOf (D.take 12) := ⟨_, rfl⟩
    obtain ⟨d12, hd12e⟩ : ∃ d, d = digOf D 12 := ⟨_, rfl⟩
    rw [← hckk] at hck hrd
    rw [← hd12e] at hb12 hd12 hrd
    have Hck := Lib.hid hck; have HRd := Lib.hid hrd
    clear hDm hg12 hckk hd12e hck hrd
    clear hd
    go_upto_region 6 with fail
    refine wp_region_flow [(true, 0), (true, 1), (true, 2), (true, 3), (true, 4), (true, 5), (false, 6), (true, 7)] (fun _ => false) (by kernel_rfl) (by kernel_rfl) (by kernel_rfl) (by kernel_rfl) ?_
    iterate 1
      apply Flow.mv _ rfl
      · intro K' hK'
        simp only [Act.put, Act.eval, List.setIfInBounds_toArray, List.set_cons_zero, List.set_cons_succ, arr_getD, List.getD_cons_zero, List.getD_cons_succ]
        exact hK'
    iterate 1
      apply Flow.calm2 _ _ rfl rfl
      · intro w' hb' K' hK'
        obtain ⟨hc', hf'⟩ := hb'.rule
        go_simp
        try go_ints
        exact hK'
      · intro K' hK'
        simp only [Act.put, List.setIfInBounds_toArray, List.set_cons_zero, List.set_cons_succ]
        exact hK'
    iterate 1
      apply Flow.calm2 _ _ rfl rfl
      · intro w' hb' K' hK'
        obtain ⟨hc', hf'⟩ := hb'.rule
        go_simp
        try go_ints
        exact hK'
      · intro K' hK'
        simp only [Act.put, List.setIfInBounds_toArray, List.set_cons_zero, List.set_cons_succ]
        exact hK'
    iterate 1
      apply Flow.calm2 _ _ rfl rfl
      · intro w' hb' K' hK'
        obtain ⟨hc', hf'⟩ := hb'.rule
        go_simp
        try go_ints
        exact hK'
      · intro K' hK'
        simp only [Act.put, List.setIfInBounds_toArray, List.set_cons_zero, List.set_cons_succ]
        exact hK'
    iterate 1
      apply Flow.mv _ rfl
      · intro K' hK'
        simp only [Act.put, Act.eval, List.setIfInBounds_toArray, List.set_cons_zero, List.set_cons_succ, arr_getD, List.getD_cons_zero, List.getD_cons_succ]
        exact hK'
    iterate 1
      apply Flow.calm2 _ _ rfl rfl
      · intro w' hb' K' hK'
        obtain ⟨hc', hf'⟩ := hb'.rule
        go_simp
        try go_ints
        exact hK'
      · intro K' hK'
        simp only [Act.put, List.setIfInBounds_toArray, List.set_cons_zero, List.set_cons_succ]
        exact hK'
    apply Flow.move rfl
    go_wp2_with fail
    refine (Hck.out _).mono ?_
    rintro e w8 ⟨rfl, HB1⟩
    go_wp2_with fail
    refine ⟨fun _ => (by first | exact HB1 | exact Bl.refl _), ?_⟩
    iterate 1
      apply Flow.calm2 _ _ rfl rfl
      · intro w' hb' K' hK'
        obtain ⟨hc', hf'⟩ := hb'.rule
        go_simp
        try go_ints
        exact hK'
      · intro K' hK'
        simp only [Act.put, List.setIfInBounds_toArray, List.set_cons_zero, List.set_cons_succ]
        exact hK'
    refine Flow.done ?_
    have HB8 := Lib.hid ((hb2.trans hb3).trans (Bl.ofDrew HB1))
    clear HB1 Hck
    by_cases hq : ck = d12
    · have HR2 := Lib.hid (HRd.out.trans (if_pos hq))
      have HF := Lib.hid (show eitherG readE m = (D, 0) by rw [eitherG_some (by rw [HR2.out]; exact (by decide : (0 : Int) ≠ 2)), HR2.out])
      subst hq
      clear HRd
      go_wp2_with fail
      exact bodyPost_ret (v := .tuple #[.string ⟨D.toArray⟩, .int .i64 0]) (by simp [results, Tryd.results30, go_sem]) rfl ⟨by rw [HF.out], HB8.out⟩
    · have HR2 := Lib.hid (HRd.out.trans (if_neg hq))
      have HF := Lib.hid (show eitherG readE m = ([], 14) by rw [eitherG_some (by rw [HR2.out]; exact (by decide : (14 : Int) ≠ 2)), HR2.out])
      have hq' : (d12 : Int) ≠ (ck : Int) := by omega
      clear HRd hq
      go_wp2_with fail
      exact bodyPost_ret (v := .tuple #[.string ⟨#[]⟩, .int .i64 14]) (by simp [results, Tryd.results30, go_sem]) rfl ⟨by rw [HF.out], HB8.out⟩
  | none =>
    have hg : digR m = ([], false) := digR_none hd
    rw [hg] at Hm
    have HE := Lib.hid ((eitherG_none hd).trans (by rw [← HRv.out]))
    clear hg hd
    go_wp2_with fail
    refine Hm.out.mono ?_
    rintro e w3 ⟨rfl, hb3⟩
    have hb23 := hb2.trans hb3
    have Hr := Lib.hid (digitsOf_any r w3 hrl (HT.out.bl hb23))
    have k3 := (HBk.out.bl hb3).all2
    clear k1 Hm hb2
    go_wp2_with fail
    rw [rounds_succ]
    cases hd : digsE r with
    | some D =>
      have hg : digR r = (D, true) := by unfold digR; rw [hd]
      rw [hg] at Hr
      clear hg
      go_wp2_with fail
      refine Hr.out.mono ?_
      rintro e w4 ⟨rfl, hb4⟩
      clear k3 Hr
      obtain ⟨hD13, hDm⟩ := digs_digits hd
      have hsD : (⟨D.toArray⟩ : ByteArray).size = D.length := Lib.size_mk D
      have hD13I : (D.length : Int) = 13 := by omega
      have hck := fun wx => checkOfR_any (D.take 12) wx (by rw [List.length_take]; omega) (made_take hDm 12)
      have hex12 : (⟨D.toArray⟩ : ByteArray).extract 0 12 = ⟨(D.take 12).toArray⟩ := slice_ab D 0 12
      obtain ⟨b12, hg12, hb12, hd12⟩ := digit_byte hDm (i := 12) (by omega)
      obtain ⟨k1, k2⟩ := bytes_at hg12
      have hrd : readE r = if checkOf (D.take 12) = digOf D 12 then (D, 0) else ([], 14) := by unfold readE; rw [hd]
      obtain ⟨ck, hckk⟩ : ∃ ck, ck = checkOf (D.take 12) := ⟨_, rfl⟩
      obtain ⟨d12, hd12e⟩ : ∃ d, d = digOf D 12 := ⟨_, rfl⟩
      rw [← hckk] at hck hrd
      rw [← hd12e] at hb12 hd12 hrd
      have Hck := Lib.hid hck; have HRd := Lib.hid hrd
      clear hDm hg12 hckk hd12e hck hrd
      clear hd
      go_upto_region 6 with fail
      refine wp_region_flow [(true, 0), (true, 1), (true, 2), (true, 3), (true, 4), (true, 5), (false, 6), (true, 7)] (fun _ => false) (by kernel_rfl) (by kernel_rfl) (by kernel_rfl) (by kernel_rfl) ?_
      iterate 1
        apply Flow.mv _ rfl
        · intro K' hK'
          simp only [Act.put, Act.eval, List.setIfInBounds_toArray, List.set_cons_zero, List.set_cons_succ, arr_getD, List.getD_cons_zero, List.getD_cons_succ]
          exact hK'
      iterate 1
        apply Flow.calm2 _ _ rfl rfl
        · intro w' hb' K' hK'
          obtain ⟨hc', hf'⟩ := hb'.rule
          go_simp
          try go_ints
          exact hK'
        · intro K' hK'
          simp only [Act.put, List.setIfInBounds_toArray, List.set_cons_zero, List.set_cons_succ]
          exact hK'
      iterate 1
        apply Flow.calm2 _ _ rfl rfl
        · intro w' hb' K' hK'
          obtain ⟨hc', hf'⟩ := hb'.rule
          go_simp
          try go_ints
          exact hK'
        · intro K' hK'
          simp only [Act.put, List.setIfInBounds_toArray, List.set_cons_zero, List.set_cons_succ]
          exact hK'
      iterate 1
        apply Flow.calm2 _ _ rfl rfl
        · intro w' hb' K' hK'
          obtain ⟨hc', hf'⟩ := hb'.rule
          go_simp
          try go_ints
          exact hK'
        · intro K' hK'
          simp only [Act.put, List.setIfInBounds_toArray, List.set_cons_zero, List.set_cons_succ]
          exact hK'
      iterate 1
        apply Flow.mv _ rfl
        · intro K' hK'
          simp only [Act.put, Act.eval, List.setIfInBounds_toArray, List.set_cons_zero, List.set_cons_succ, arr_getD, List.getD_cons_zero, List.getD_cons_succ]
          exact hK'
      iterate 1
        apply Flow.calm2 _ _ rfl rfl
        · intro w' hb' K' hK'
          obtain ⟨hc', hf'⟩ := hb'.rule
          go_simp
          try go_ints
          exact hK'
        · intro K' hK'
          simp only [Act.put, List.setIfInBounds_toArray, List.set_cons_zero, List.set_cons_succ]
          exact hK'
      apply Flow.move rfl
      go_wp2_with fail
      refine (Hck.out _).mono ?_
      rintro e w8 ⟨rfl, HB1⟩
      go_wp2_with fail
      refine ⟨fun _ => (by first | exact HB1 | exact Bl.refl _), ?_⟩
      iterate 1
        apply Flow.calm2 _ _ rfl rfl
        · intro w' hb' K' hK'
          obtain ⟨hc', hf'⟩ := hb'.rule
          go_simp
          try go_ints
          exact hK'
        · intro K' hK'
          simp only [Act.put, List.setIfInBounds_toArray, List.set_cons_zero, List.set_cons_succ]
          exact hK'
      refine Flow.done ?_
      have HB8 := Lib.hid ((hb23.trans hb4).trans (Bl.ofDrew HB1))
      clear HB1 Hck
      by_cases hq : ck = d12
      · have HR2 := Lib.hid (HRd.out.trans (if_pos hq))
        have HF := Lib.hid (show eitherG readE m = (D, 0) by rw [HE.out, HR2.out])
        subst hq
        clear HRd
        go_wp2_with fail
        exact bodyPost_ret (v := .tuple #[.string ⟨D.toArray⟩, .int .i64 0]) (by simp [results, Tryd.results30, go_sem]) rfl ⟨by rw [HF.out], HB8.out⟩
      · have HR2 := Lib.hid (HRd.out.trans (if_neg hq))
        have HF := Lib.hid (show eitherG readE m = ([], 14) by rw [HE.out, HR2.out])
        have hq' : (d12 : Int) ≠ (ck : Int) := by omega
        clear HRd hq
        go_wp2_with fail
        exact bodyPost_ret (v := .tuple #[.string ⟨#[]⟩, .int .i64 14]) (by simp [results, Tryd.results30, go_sem]) rfl ⟨by rw [HF.out], HB8.out⟩
    | none =>
      have hg : digR r = ([], false) := digR_none hd
      rw [hg] at Hr
      have HF := Lib.hid (HE.out.trans (read_none hd))
      clear hg hd
      go_wp2_with fail
      refine Hr.out.mono ?_
      rintro e w4 ⟨rfl, hb4⟩
      clear k3 Hr
      go_wp2_with fail
      rw [rounds_succ]
      go_wp2_with fail
      exact bodyPost_ret (v := .tuple #[.string ⟨#[]⟩, .int .i64 2]) (by simp [results, Tryd.results30, go_sem]) rfl ⟨by rw [HF.out], hb23.trans hb4⟩

end Go.Proofs.YtpjemcfcheijkaaDoor


/-! The law EANsMatch answers true. -/
namespace Go.Proofs.YtpjemcfcheijkaaDoor
open Go.RowKit Go.Shelf

theorem eanPart_bound {l : List UInt8} (hm : madeOf l digits10 = true) : (eanOf l).length ≤ 9223372036854775807 := by
  have h := eanPart_len l (digOf_le hm) 12
  show (eanPart l 12 ++ endE).length ≤ _
  rw [List.length_append]
  have : endE.length = 3 := rfl
  omega
set_option maxRecDepth 100000 in
set_option maxHeartbeats 8000000 in
theorem lawEans_any (l q : List UInt8) (w : World) (hl : l.length ≤ 9223372036854775807) (hql : q.length ≤ 9223372036854775807) (hT : SpOk w) :
    Calls Tryd.prog 4 #[.string ⟨l.toArray⟩, .string ⟨q.toArray⟩] w fun e w' => e = .returned (.bool true) ∧ Bl w w' := by
  have HT := Lib.hid hT
  have hsz : (⟨l.toArray⟩ : ByteArray).size = l.length := Lib.size_mk l
  have hcd := checkDigit_any l w hl
  have hd12 := fun wx => digitsR_any l 12 wx hl (by decide)
  have hd13 := fun wx => digitsR_any l 13 wx hl (by decide)
  have hean := fun wx => ean_any l wx hl
  have Hr1 := Lib.hid (fun wx => readEANx_any q wx hql)
  have Hr2 := Lib.hid (fun wx h => readEANOf_any q wx hql h)
  obtain ⟨ra, hra⟩ : ∃ x, x = (eitherG readE q).1 := ⟨_, rfl⟩
  obtain ⟨rb, hrb⟩ : ∃ x, x = (eitherG readE q).2 := ⟨_, rfl⟩
  rw [← hra, ← hrb] at Hr1 Hr2
  clear hra hrb hT
  have h12 : digB l 12 = true → l.length = 12 ∧ madeOf l digits10 = true := fun h => by
    unfold digB at h
    simpa using h
  have h13 : digB l 13 = true → l.length = 13 ∧ madeOf l digits10 = true := fun h => by
    unfold digB at h
    simpa using h
  cases hd : digB l 12 with
  | true =>
    obtain ⟨hlen, hmd⟩ := h12 hd
    have hdx : digB l 13 = false := by
      cases hx : digB l 13 with
      | false => rfl
      | true => have := (h13 hx).1; omega
    have hee : eanErr l = 2 := by unfold eanErr; rw [hdx]; rfl
    have hev : eanVal l = [] := by unfold eanVal; rw [hee]; rfl
    have Hco := Lib.hid (fun wx => checkOfR_any l wx hlen hmd)
    simp only [hd, if_true] at hcd hd12
    simp only [hdx] at hd13
    simp only [hee, hev] at hean
    obtain ⟨ck, hck⟩ : ∃ c, c = checkOf l := ⟨_, rfl⟩
    rw [← hck] at hcd Hco
    have Hcd := Lib.hid hcd; have Hd12 := Lib.hid hd12; have Hd13 := Lib.hid hd13; have Hean := Lib.hid hean
    clear hcd hd12 hd13 hean hd hdx hee hev hlen hmd hck h12 h13
    go_enter Tryd.func4, Tryd.ntmps4
    go_wp2_with fail
    refine Hcd.out.mono ?_
    rintro e w1 ⟨rfl, hb1⟩
    go_wp2_with fail
    refine (Hd12.out _).mono ?_
    rintro e w2 ⟨rfl, hb2⟩
    have HB2 := Lib.hid (hb1.trans hb2)
    clear hb1 hb2 Hcd Hd12
    go_wp2_with fail
    refine (when_any _ _ _).mono ?_
    rintro e w' ⟨rfl, hw⟩
    subst hw
    rw [show whenI false 2 = 0 from rfl]
    go_wp2_with fail
    refine (bars_any _).mono ?_
    rintro e w3 ⟨rfl, hb3⟩
    have HB3 := Lib.hid (HB2.out.trans hb3)
    clear hb3 HB2
    go_wp2_with fail
    refine (Hco.out _).mono ?_
    rintro e w4 ⟨rfl, hb4⟩
    have HB4 := Lib.hid (HB3.out.trans hb4)
    clear hb4 HB3 Hco
    go_wp2_with fail
    refine (Hean.out _).mono ?_
    rintro e w5 ⟨rfl, hb5⟩
    have HB5 := Lib.hid (HB4.out.trans hb5)
    clear hb5 HB4 Hean
    go_wp2_with fail
    refine (Hd13.out _).mono ?_
    rintro e w6 ⟨rfl, hb6⟩
    have HB6 := Lib.hid (HB5.out.trans hb6)
    clear hb6 HB5 Hd13
    go_wp2_with fail
    refine (when_any _ _ _).mono ?_
    rintro e w' ⟨rfl, hw⟩
    subst hw
    rw [show whenI true 2 = 2 from rfl]
    go_wp2_with fail
    refine (Hr1.out _).mono ?_
    rintro e w10 ⟨rfl, hb10⟩
    have HB10 := Lib.hid (HB6.out.trans hb10)
    clear hb10 Hr1
    go_wp2_with fail
    refine (Hr2.out _ (HT.out.bl HB10.out)).mono ?_
    rintro e w11 ⟨rfl, hb11⟩
    have HB11 := Lib.hid (HB10.out.trans hb11)
    clear hb11 Hr2
    go_wp2_with fail
    go_ret
    exact ⟨by simp, HB11.out⟩
  | false =>
    simp only [hd] at hcd hd12
    rw [if_neg (by decide), if_neg (by decide)] at hcd
    cases hd3 : digB l 13 with
    | false =>
      have hee : eanErr l = 2 := by unfold eanErr; rw [hd3]; rfl
      have hev : eanVal l = [] := by unfold eanVal; rw [hee]; rfl
      simp only [hd3] at hd13
      simp only [hee, hev] at hean
      have Hcd := Lib.hid hcd; have Hd12 := Lib.hid hd12; have Hd13 := Lib.hid hd13; have Hean := Lib.hid hean
      clear hcd hd12 hd13 hean hd hd3 hee hev h12 h13
      go_enter Tryd.func4, Tryd.ntmps4
      go_wp2_with fail
      refine Hcd.out.mono ?_
      rintro e w1 ⟨rfl, hb1⟩
      go_wp2_with fail
      refine (Hd12.out _).mono ?_
      rintro e w2 ⟨rfl, hb2⟩
      have HB2 := Lib.hid (hb1.trans hb2)
      clear hb1 hb2 Hcd Hd12
      go_wp2_with fail
      refine (when_any _ _ _).mono ?_
      rintro e w' ⟨rfl, hw⟩
      subst hw
      rw [show whenI true 2 = 2 from rfl]
      go_wp2_with fail
      refine (bars_any _).mono ?_
      rintro e w3 ⟨rfl, hb3⟩
      have HB3 := Lib.hid (HB2.out.trans hb3)
      clear hb3 HB2
      go_wp2_with fail
      refine (Hean.out _).mono ?_
      rintro e w5 ⟨rfl, hb5⟩
      have HB5 := Lib.hid (HB3.out.trans hb5)
      clear hb5 HB3 Hean
      go_wp2_with fail
      refine (Hd13.out _).mono ?_
      rintro e w6 ⟨rfl, hb6⟩
      have HB6 := Lib.hid (HB5.out.trans hb6)
      clear hb6 HB5 Hd13
      go_wp2_with fail
      refine (when_any _ _ _).mono ?_
      rintro e w' ⟨rfl, hw⟩
      subst hw
      rw [show whenI true 2 = 2 from rfl]
      go_wp2_with fail
      refine (Hr1.out _).mono ?_
      rintro e w10 ⟨rfl, hb10⟩
      have HB10 := Lib.hid (HB6.out.trans hb10)
      clear hb10 Hr1
      go_wp2_with fail
      refine (Hr2.out _ (HT.out.bl HB10.out)).mono ?_
      rintro e w11 ⟨rfl, hb11⟩
      have HB11 := Lib.hid (HB10.out.trans hb11)
      clear hb11 Hr2
      go_wp2_with fail
      go_ret
      exact ⟨by simp, HB11.out⟩
    | true =>
      obtain ⟨hlen, hmd⟩ := h13 hd3
      have hlenI : (l.length : Int) = 13 := by omega
      have hee : eanErr l = if checkOf (l.take 12) = digOf l 12 then 0 else 14 := by unfold eanErr; rw [hd3]; rfl
      have Hco := Lib.hid (fun wx => checkOfR_any (l.take 12) wx (by rw [List.length_take]; omega) (made_take hmd 12))
      have hex12 : (⟨l.toArray⟩ : ByteArray).extract 0 12 = ⟨(l.take 12).toArray⟩ := slice_ab l 0 12
      obtain ⟨b12, hg12, hb12, hd9⟩ := digit_byte hmd (i := 12) (by omega)
      obtain ⟨k1, k2⟩ := bytes_at hg12
      have hread := ean_read l hlen hmd
      have hbd := eanPart_bound hmd
      have Heo := Lib.hid (fun wx h => eanOf_any l wx hlen hmd h)
      obtain ⟨ck, hckk⟩ : ∃ ck, ck = checkOf (l.take 12) := ⟨_, rfl⟩
      obtain ⟨d12, hd12e⟩ : ∃ d, d = digOf l 12 := ⟨_, rfl⟩
      rw [← hckk] at Hco hee hread
      rw [← hd12e] at hb12 hd9 hee hread
      simp only [hd3] at hd13
      have Hcd := Lib.hid hcd; have Hd12 := Lib.hid hd12; have Hd13 := Lib.hid hd13; have HRead := Lib.hid hread
      by_cases hq : ck = d12
      · rw [if_pos hq] at hee
        have hev : eanVal l = eanOf l := by unfold eanVal; rw [hee]; rfl
        simp only [hee, hev] at hean
        obtain ⟨m, hm⟩ : ∃ m, m = eanOf l := ⟨_, rfl⟩
        have HRd := Lib.hid (hread hq)
        rw [← hm] at hean Heo hbd HRd
        have hrb : m.reverse.length ≤ 9223372036854775807 := by rw [List.length_reverse]; exact hbd
        have Hm1 := Lib.hid (fun wx => show Calls Tryd.prog 28 #[.string ⟨m.toArray⟩] wx fun e w' => e = .returned (.tuple #[.string ⟨l.toArray⟩, .int .i64 0]) ∧ Bl wx w' from by have h := readEANx_any m wx hbd; rw [show eitherG readE m = (l, 0) from HRd.out.1] at h; exact h)
        have Hm2 := Lib.hid (fun wx => show Calls Tryd.prog 28 #[.string ⟨m.reverse.toArray⟩] wx fun e w' => e = .returned (.tuple #[.string ⟨l.toArray⟩, .int .i64 0]) ∧ Bl wx w' from by have h := readEANx_any m.reverse wx hrb; rw [show eitherG readE m.reverse = (l, 0) from HRd.out.2] at h; exact h)
        have hfl := fun wx => flip_any m wx hbd
        unfold FlipRes at hfl
        obtain ⟨r, hr⟩ : ∃ r, r = m.reverse := ⟨_, rfl⟩
        rw [← hr] at Hm2 hfl
        have Hfl := Lib.hid hfl; have Hean := Lib.hid hean
        subst hq
        clear hcd hd12 hd13 hean hd hd3 hee hev h12 h13 hlen hmd hread hbd hrb hfl hm hr hg12 hckk hd12e HRd HRead
        go_enter Tryd.func4, Tryd.ntmps4
        go_wp2_with fail
        refine Hcd.out.mono ?_
        rintro e w1 ⟨rfl, hb1⟩
        go_wp2_with fail
        refine (Hd12.out _).mono ?_
        rintro e w2 ⟨rfl, hb2⟩
        have HB2 := Lib.hid (hb1.trans hb2)
        clear hb1 hb2 Hcd Hd12
        go_wp2_with fail
        refine (when_any _ _ _).mono ?_
        rintro e w' ⟨rfl, hw⟩
        subst hw
        rw [show whenI true 2 = 2 from rfl]
        go_wp2_with fail
        refine (bars_any _).mono ?_
        rintro e w3 ⟨rfl, hb3⟩
        have HB3 := Lib.hid (HB2.out.trans hb3)
        clear hb3 HB2
        go_wp2_with fail
        refine (Hean.out _).mono ?_
        rintro e w5 ⟨rfl, hb5⟩
        have HB5 := Lib.hid (HB3.out.trans hb5)
        clear hb5 HB3 Hean
        go_wp2_with fail
        refine (Hd13.out _).mono ?_
        rintro e w6 ⟨rfl, hb6⟩
        have HB6 := Lib.hid (HB5.out.trans hb6)
        clear hb6 HB5 Hd13
        go_wp2_with fail
        refine (when_any _ _ _).mono ?_
        rintro e w' ⟨rfl, hw⟩
        subst hw
        rw [show whenI false 2 = 0 from rfl]
        go_upto_region 8 with fail
        refine wp_region_flow [(true, 0), (true, 1), (true, 2), (true, 3), (true, 4), (true, 5), (false, 6), (true, 7), (false, 8), (true, 9)] (fun _ => false) (by kernel_rfl) (by kernel_rfl) (by kernel_rfl) (by kernel_rfl) ?_
        iterate 1
          apply Flow.mv _ rfl
          · intro K' hK'
            simp only [Act.put, Act.eval, List.setIfInBounds_toArray, List.set_cons_zero, List.set_cons_succ, arr_getD, List.getD_cons_zero]
            exact hK'
        iterate 1
          apply Flow.calm2 _ _ rfl rfl
          · intro w' hb' K' hK'
            obtain ⟨hc', hf'⟩ := hb'.rule
            go_simp
            try go_ints
            exact hK'
          · intro K' hK'
            simp only [Act.put, List.setIfInBounds_toArray, List.set_cons_zero, List.set_cons_succ]
            exact hK'
        iterate 1
          apply Flow.calm2 _ _ rfl rfl
          · intro w' hb' K' hK'
            obtain ⟨hc', hf'⟩ := hb'.rule
            go_simp
            try go_ints
            exact hK'
          · intro K' hK'
            simp only [Act.put, List.setIfInBounds_toArray, List.set_cons_zero, List.set_cons_succ]
            exact hK'
        iterate 1
          apply Flow.calm2 _ _ rfl rfl
          · intro w' hb' K' hK'
            obtain ⟨hc', hf'⟩ := hb'.rule
            go_simp
            try go_ints
            exact hK'
          · intro K' hK'
            simp only [Act.put, List.setIfInBounds_toArray, List.set_cons_zero, List.set_cons_succ]
            exact hK'
        iterate 1
          apply Flow.mv _ rfl
          · intro K' hK'
            simp only [Act.put, Act.eval, List.setIfInBounds_toArray, List.set_cons_zero, List.set_cons_succ, arr_getD, List.getD_cons_zero]
            exact hK'
        iterate 1
          apply Flow.calm2 _ _ rfl rfl
          · intro w' hb' K' hK'
            obtain ⟨hc', hf'⟩ := hb'.rule
            go_simp
            try go_ints
            exact hK'
          · intro K' hK'
            simp only [Act.put, List.setIfInBounds_toArray, List.set_cons_zero, List.set_cons_succ]
            exact hK'
        apply Flow.move rfl
        go_wp2_with fail
        refine (Hco.out _).mono ?_
        rintro e w8 ⟨rfl, HB1⟩
        go_wp2_with fail
        refine ⟨fun _ => (by first | exact HB1 | exact Bl.refl _), ?_⟩
        iterate 1
          apply Flow.calm2 _ _ rfl rfl
          · intro w' hb' K' hK'
            obtain ⟨hc', hf'⟩ := hb'.rule
            go_simp
            try go_ints
            exact hK'
          · intro K' hK'
            simp only [Act.put, List.setIfInBounds_toArray, List.set_cons_zero, List.set_cons_succ]
            exact hK'
        apply Flow.move rfl
        go_wp2_with fail
        refine (when_any _ _ _).mono ?_
        rintro e w9 ⟨rfl, hw9⟩
        subst hw9
        rw [show whenI ((48 : Int) + (ck : Int) - 48 != (ck : Int)) 14 = 0 by rw [show (48 : Int) + (ck : Int) - 48 = (ck : Int) by omega]; unfold whenI; simp]
        have HB2 := HB1
        go_wp2_with fail
        refine ⟨fun _ => (by first | exact HB2 | exact Bl.refl _), ?_⟩
        iterate 1
          apply Flow.asg _ rfl
          · intro K' hK'
            simp only [Act.put, Act.eval, List.setIfInBounds_toArray, List.set_cons_zero, List.set_cons_succ, arr_getD, List.getD_cons_zero, List.getD_cons_succ]
            exact hK'
        refine Flow.done ?_
        have HB8 := Lib.hid (HB6.out.trans (Bl.ofDrew HB1))
        clear HB1 HB2 HB6 Hco
        go_wp2_with fail
        refine (Hfl.out _).mono ?_
        rintro e w12 ⟨rfl, hb12⟩
        have HB12 := Lib.hid (HB8.out.trans hb12)
        clear hb12 HB8 Hfl
        go_wp2_with fail
        have hbk := Blk.new w12 9 #[.string ⟨m.toArray⟩, .string ⟨r.toArray⟩]
        have hb13 : Bl w (w12.alloc (.cells #[.string ⟨m.toArray⟩, .string ⟨r.toArray⟩] 9)) := HB12.out.alloc _
        obtain ⟨kb, hkb⟩ : ∃ k, k = w12.heap.size := ⟨_, rfl⟩
        rw [← hkb] at hbk ⊢
        generalize w12.alloc (.cells #[.string ⟨m.toArray⟩, .string ⟨r.toArray⟩] 9) = w13 at hbk hb13 ⊢
        have kc := hbk.all2
        have HBk := Lib.hid hbk; have HB13 := Lib.hid hb13
        clear hkb hb13 HB12
        refine wp_loop_rounds 3 ?_
        rw [rounds_succ]
        go_wp2_with fail
        refine (Hm1.out _).mono ?_
        rintro e w14 ⟨rfl, hb14⟩
        go_wp2_with fail
        refine (Heo.out _ (HT.out.bl (HB13.out.trans hb14))).mono ?_
        rintro e w15 ⟨rfl, hb15⟩
        have HB15 := Lib.hid (hb14.trans hb15)
        clear hb14 hb15 kc
        have kc := (HBk.out.bl HB15.out).all2
        go_wp2_with fail
        rw [rounds_succ]
        go_wp2_with fail
        refine (Hm2.out _).mono ?_
        rintro e w16 ⟨rfl, hb16⟩
        have HB16 := Lib.hid (HB13.out.trans (HB15.out.trans hb16))
        clear hb16 kc
        go_wp2_with fail
        refine (Heo.out _ (HT.out.bl HB16.out)).mono ?_
        rintro e w17 ⟨rfl, hb17⟩
        have HB17 := Lib.hid (HB16.out.trans hb17)
        clear hb17
        go_wp2_with fail
        rw [rounds_succ]
        go_wp2_with fail
        refine (Hr1.out _).mono ?_
        rintro e w10 ⟨rfl, hb10⟩
        have HB10 := Lib.hid (HB17.out.trans hb10)
        clear hb10 Hr1
        go_wp2_with fail
        refine (Hr2.out _ (HT.out.bl HB10.out)).mono ?_
        rintro e w11 ⟨rfl, hb11⟩
        have HB11 := Lib.hid (HB10.out.trans hb11)
        clear hb11 Hr2
        go_wp2_with fail
        go_ret
        exact ⟨by simp, HB11.out⟩
      · rw [if_neg hq] at hee
        have hev : eanVal l = [] := by unfold eanVal; rw [hee]; rfl
        simp only [hee, hev] at hean
        have Hean := Lib.hid hean
        have hq' : ((d12 : Int) != (ck : Int)) = true := by rw [bne_iff_ne]; omega
        clear hcd hd12 hd13 hean hd hd3 hee hev h12 h13 hlen hmd hread hbd hg12 hckk hd12e HRead Heo hq
        go_enter Tryd.func4, Tryd.ntmps4
        go_wp2_with fail
        refine Hcd.out.mono ?_
        rintro e w1 ⟨rfl, hb1⟩
        go_wp2_with fail
        refine (Hd12.out _).mono ?_
        rintro e w2 ⟨rfl, hb2⟩
        have HB2 := Lib.hid (hb1.trans hb2)
        clear hb1 hb2 Hcd Hd12
        go_wp2_with fail
        refine (when_any _ _ _).mono ?_
        rintro e w' ⟨rfl, hw⟩
        subst hw
        rw [show whenI true 2 = 2 from rfl]
        go_wp2_with fail
        refine (bars_any _).mono ?_
        rintro e w3 ⟨rfl, hb3⟩
        have HB3 := Lib.hid (HB2.out.trans hb3)
        clear hb3 HB2
        go_wp2_with fail
        refine (Hean.out _).mono ?_
        rintro e w5 ⟨rfl, hb5⟩
        have HB5 := Lib.hid (HB3.out.trans hb5)
        clear hb5 HB3 Hean
        go_wp2_with fail
        refine (Hd13.out _).mono ?_
        rintro e w6 ⟨rfl, hb6⟩
        have HB6 := Lib.hid (HB5.out.trans hb6)
        clear hb6 HB5 Hd13
        go_wp2_with fail
        refine (when_any _ _ _).mono ?_
        rintro e w' ⟨rfl, hw⟩
        subst hw
        rw [show whenI false 2 = 0 from rfl]
        go_upto_region 8 with fail
        refine wp_region_flow [(true, 0), (true, 1), (true, 2), (true, 3), (true, 4), (true, 5), (false, 6), (true, 7), (false, 8), (true, 9)] (fun _ => false) (by kernel_rfl) (by kernel_rfl) (by kernel_rfl) (by kernel_rfl) ?_
        iterate 1
          apply Flow.mv _ rfl
          · intro K' hK'
            simp only [Act.put, Act.eval, List.setIfInBounds_toArray, List.set_cons_zero, List.set_cons_succ, arr_getD, List.getD_cons_zero]
            exact hK'
        iterate 1
          apply Flow.calm2 _ _ rfl rfl
          · intro w' hb' K' hK'
            obtain ⟨hc', hf'⟩ := hb'.rule
            go_simp
            try go_ints
            exact hK'
          · intro K' hK'
            simp only [Act.put, List.setIfInBounds_toArray, List.set_cons_zero, List.set_cons_succ]
            exact hK'
        iterate 1
          apply Flow.calm2 _ _ rfl rfl
          · intro w' hb' K' hK'
            obtain ⟨hc', hf'⟩ := hb'.rule
            go_simp
            try go_ints
            exact hK'
          · intro K' hK'
            simp only [Act.put, List.setIfInBounds_toArray, List.set_cons_zero, List.set_cons_succ]
            exact hK'
        iterate 1
          apply Flow.calm2 _ _ rfl rfl
          · intro w' hb' K' hK'
            obtain ⟨hc', hf'⟩ := hb'.rule
            go_simp
            try go_ints
            exact hK'
          · intro K' hK'
            simp only [Act.put, List.setIfInBounds_toArray, List.set_cons_zero, List.set_cons_succ]
            exact hK'
        iterate 1
          apply Flow.mv _ rfl
          · intro K' hK'
            simp only [Act.put, Act.eval, List.setIfInBounds_toArray, List.set_cons_zero, List.set_cons_succ, arr_getD, List.getD_cons_zero]
            exact hK'
        iterate 1
          apply Flow.calm2 _ _ rfl rfl
          · intro w' hb' K' hK'
            obtain ⟨hc', hf'⟩ := hb'.rule
            go_simp
            try go_ints
            exact hK'
          · intro K' hK'
            simp only [Act.put, List.setIfInBounds_toArray, List.set_cons_zero, List.set_cons_succ]
            exact hK'
        apply Flow.move rfl
        go_wp2_with fail
        refine (Hco.out _).mono ?_
        rintro e w8 ⟨rfl, HB1⟩
        go_wp2_with fail
        refine ⟨fun _ => (by first | exact HB1 | exact Bl.refl _), ?_⟩
        iterate 1
          apply Flow.calm2 _ _ rfl rfl
          · intro w' hb' K' hK'
            obtain ⟨hc', hf'⟩ := hb'.rule
            go_simp
            try go_ints
            exact hK'
          · intro K' hK'
            simp only [Act.put, List.setIfInBounds_toArray, List.set_cons_zero, List.set_cons_succ]
            exact hK'
        apply Flow.move rfl
        go_wp2_with fail
        refine (when_any _ _ _).mono ?_
        rintro e w9 ⟨rfl, hw9⟩
        subst hw9
        rw [show whenI ((48 : Int) + (d12 : Int) - 48 != (ck : Int)) 14 = 14 by rw [show (48 : Int) + (d12 : Int) - 48 = (d12 : Int) by omega, hq']; rfl]
        have HB2 := HB1
        go_wp2_with fail
        refine ⟨fun _ => (by first | exact HB2 | exact Bl.refl _), ?_⟩
        iterate 1
          apply Flow.asg _ rfl
          · intro K' hK'
            simp only [Act.put, Act.eval, List.setIfInBounds_toArray, List.set_cons_zero, List.set_cons_succ, arr_getD, List.getD_cons_zero, List.getD_cons_succ]
            exact hK'
        refine Flow.done ?_
        have HB8 := Lib.hid (HB6.out.trans (Bl.ofDrew HB1))
        clear HB1 HB2 HB6 Hco
        go_wp2_with fail
        refine (Hr1.out _).mono ?_
        rintro e w10 ⟨rfl, hb10⟩
        have HB10 := Lib.hid (HB8.out.trans hb10)
        clear hb10 Hr1
        go_wp2_with fail
        refine (Hr2.out _ (HT.out.bl HB10.out)).mono ?_
        rintro e w11 ⟨rfl, hb11⟩
        have HB11 := Lib.hid (HB10.out.trans hb11)
        clear hb11 Hr2
        go_wp2_with fail
        go_ret
        exact ⟨by simp, HB11.out⟩

end Go.Proofs.YtpjemcfcheijkaaDoor
