/- bedref2.ReadEANOf: what is read of modules, as they are or turned round. -/
import Derived.Test.YtkipcobpnecmhaaGreatDoorMClaimBarCodes31

namespace Go.Proofs.YtkipcobpnecmhaaGreatDoor
open Go.RowKit Go.Shelf

theorem made_take {l cs : List UInt8} (hm : madeOf l cs = true) (n : Nat) : madeOf (l.take n) cs = true := by
  unfold madeOf at hm ⊢
  rw [List.all_eq_true] at hm
  rw [List.all_eq_true]
  exact fun b hb => hm b (List.mem_of_mem_take hb)
theorem eitherG_some {m : List UInt8} (h : (readE m).2 ≠ 2) : eitherG readE m = readE m := by unfold eitherG; rw [if_neg h]
theorem eitherG_none {m : List UInt8} (h : digsE m = none) : eitherG readE m = readE m.reverse := by unfold eitherG; rw [read_none h, if_pos rfl]
set_option maxRecDepth 100000 in
set_option maxHeartbeats 4000000 in
theorem readEANOf_any (m : List UInt8) (w : World) (hl : m.length ≤ 9223372036854775807) (hT : SpOk w) :
    Calls Tryz.prog 48 #[.string ⟨m.toArray⟩] w fun e w' => e = .returned (.tuple #[.string ⟨(eitherG readE m).1.toArray⟩, .int .i64 (eitherG readE m).2]) ∧ Bl w w' := by
  have hf := flip_any m w hl
  unfold FlipRes at hf
  have Hf := Lib.hid hf
  have HT := Lib.hid hT
  have hrl : m.reverse.length ≤ 9223372036854775807 := by rw [List.length_reverse]; exact hl
  obtain ⟨r, hr⟩ : ∃ r, r = m.reverse := ⟨_, rfl⟩
  rw [← hr] at Hf hrl
  have HRv := Lib.hid hr
  clear hf hT hr
  go_enter Tryz.func48, Tryz.ntmps48
  go_wp2_with fail
  refine Hf.out.mono ?_
  rintro e w1 ⟨rfl, hb1⟩
  clear Hf
  go_wp2_with fail
  have hbk := Blk.new w1 9 #[.string ⟨m.toArray⟩, .string ⟨r.toArray⟩]
  have hb2 : Bl w (w1.alloc (.cells #[.string ⟨m.toArray⟩, .string ⟨r.toArray⟩] 9)) := hb1.alloc _
  obtain ⟨kb, hkb⟩ : ∃ k, k = w1.heap.size := ⟨_, rfl⟩
  rw [← hkb] at hbk ⊢
  generalize w1.alloc (.cells #[.string ⟨m.toArray⟩, .string ⟨r.toArray⟩] 9) = w2 at hbk hb2 ⊢
  have k1 := hbk.all2
  have HBk := Lib.hid hbk
  have Hm := Lib.hid (digitsOf_any m w2 hl (HT.out.bl hb2))
  clear hkb hb1 hbk
  refine wp_loop_rounds 3 ?_
  rw [rounds_succ]
  cases hd : digsE m with
  | some D =>
    have hg : digR m = (D, true) := by unfold digR; rw [hd]
    rw [hg] at Hm
    clear hg
    go_wp2_with fail
    refine Hm.out.mono ?_
    rintro e w3 ⟨rfl, hb3⟩
    clear k1 Hm
    obtain ⟨hD13, hDm⟩ := digs_digits hd
    have hsD : (⟨D.toArray⟩ : ByteArray).size = D.length := Lib.size_mk D
    have hD13I : (D.length : Int) = 13 := by omega
    have hck := fun wx => checkOfR_any (D.take 12) wx (by rw [List.length_take]; omega) (made_take hDm 12)
    have hex12 : (⟨D.toArray⟩ : ByteArray).extract 0 12 = ⟨(D.take 12).toArray⟩ := slice_ab D 0 12
    obtain ⟨b12, hg12, hb12, hd12⟩ := digit_byte hDm (i := 12) (by omega)
    obtain ⟨k1, k2⟩ := bytes_at hg12
    have hrd : readE m = if checkOf (D.take 12) = digOf D 12 then (D, 0) else ([], 14) := by unfold readE; rw [hd]
    obtain ⟨ck, hckk⟩ : ∃ ck, ck = checkOf (D.take 12) := ⟨_, rfl⟩
    obtain ⟨d12, hd12e⟩ : ∃ d, d = digOf D 12 := ⟨_, rfl⟩
    rw [← hckk] at hck hrd
    rw [← hd12e] at hb12 hd12 hrd
    have Hck := Lib.hid hck; have HRd := Lib.hid hrd
    clear hDm hg12 hckk hd12e hck hrd
    clear hd
    go_upto_region 6 with fail
    refine wp_region_flow [(true, 0), (true, 1), (true, 2), (true, 3), (true, 4), (true, 5), (false, 6), (true, 7)] (fun _ => false) (by kernel_rfl) (by kernel_rfl) (by kernel_rfl) (by kernel_rfl) ?_
    iterate 1
      apply Flow.mv _ rfl
      · intro K' hK'
        simp only [Act.put, Act.eval, List.setIfInBounds_toArray, List.set_cons_zero, List.set_cons_succ, arr_getD, List.getD_cons_zero, List.getD_cons_succ]
        exact hK'
    iterate 1
      apply Flow.calm2 _ _ rfl rfl
      · intro w' hb' K' hK'
        obtain ⟨hc', hf'⟩ := hb'.rule
        go_simp
        try go_ints
        exact hK'
      · intro K' hK'
        simp only [Act.put, List.setIfInBounds_toArray, List.set_cons_zero, List.set_cons_succ]
        exact hK'
    iterate 1
      apply Flow.calm2 _ _ rfl rfl
      · intro w' hb' K' hK'
        obtain ⟨hc', hf'⟩ := hb'.rule
        go_simp
        try go_ints
        exact hK'
      · intro K' hK'
        simp only [Act.put, List.setIfInBounds_toArray, List.set_cons_zero, List.set_cons_succ]
        exact hK'
    iterate 1
      apply Flow.calm2 _ _ rfl rfl
      · intro w' hb' K' hK'
        obtain ⟨hc', hf'⟩ := hb'.rule
        go_simp
        try go_ints
        exact hK'
      · intro K' hK'
        simp only [Act.put, List.setIfInBounds_toArray, List.set_cons_zero, List.set_cons_succ]
        exact hK'
    iterate 1
      apply Flow.mv _ rfl
      · intro K' hK'
        simp only [Act.put, Act.eval, List.setIfInBounds_toArray, List.set_cons_zero, List.set_cons_succ, arr_getD, List.getD_cons_zero, List.getD_cons_succ]
        exact hK'
    iterate 1
      apply Flow.calm2 _ _ rfl rfl
      · intro w' hb' K' hK'
        obtain ⟨hc', hf'⟩ := hb'.rule
        go_simp
        try go_ints
        exact hK'
      · intro K' hK'
        simp only [Act.put, List.setIfInBounds_toArray, List.set_cons_zero, List.set_cons_succ]
        exact hK'
    apply Flow.move rfl
    go_wp2_with fail
    refine (Hck.out _).mono ?_
    rintro e w8 ⟨rfl, HB1⟩
    go_wp2_with fail
    refine ⟨fun _ => (by first | exact HB1 | exact Bl.refl _), ?_⟩
    iterate 1
      apply Flow.calm2 _ _ rfl rfl
      · intro w' hb' K' hK'
        obtain ⟨hc', hf'⟩ := hb'.rule
        go_simp
        try go_ints
        exact hK'
      · intro K' hK'
        simp only [Act.put, List.setIfInBounds_toArray, List.set_cons_zero, List.set_cons_succ]
        exact hK'
    refine Flow.done ?_
    have HB8 := Lib.hid ((hb2.trans hb3).trans (Bl.ofDrew HB1))
    clear HB1 Hck
    by_cases hq : ck = d12
    · have HR2 := Lib.hid (HRd.out.trans (if_pos hq))
      have HF := Lib.hid (show eitherG readE m = (D, 0) by rw [eitherG_some (by rw [HR2.out]; exact (by decide : (0 : Int) ≠ 2)), HR2.out])
      subst hq
      clear HRd
      go_wp2_with fail
      exact bodyPost_ret (v := .tuple #[.string ⟨D.toArray⟩, .int .i64 0]) (by simp [results, Tryz.results48, go_sem]) rfl ⟨by rw [HF.out], HB8.out⟩
    · have HR2 := Lib.hid (HRd.out.trans (if_neg hq))
      have HF := Lib.hid (show eitherG readE m = ([], 14) by rw [eitherG_some (by rw [HR2.out]; exact (by decide : (14 : Int) ≠ 2)), HR2.out])
      have hq' : (d12 : Int) ≠ (ck : Int) := by omega
      clear HRd hq
      go_wp2_with fail
      exact bodyPost_ret (v := .tuple #[.string ⟨#[]⟩, .int .i64 14]) (by simp [results, Tryz.results48, go_sem]) rfl ⟨by rw [HF.out], HB8.out⟩
  | none =>
    have hg : digR m = ([], false) := digR_none hd
    rw [hg] at Hm
    have HE := Lib.hid ((eitherG_none hd).trans (by rw [← HRv.out]))
    clear hg hd
    go_wp2_with fail
    refine Hm.out.mono ?_
    rintro e w3 ⟨rfl, hb3⟩
    have hb23 := hb2.trans hb3
    have Hr := Lib.hid (digitsOf_any r w3 hrl (HT.out.bl hb23))
    have k3 := (HBk.out.bl hb3).all2
    clear k1 Hm hb2
    go_wp2_with fail
    rw [rounds_succ]
    cases hd : digsE r with
    | some D =>
      have hg : digR r = (D, true) := by unfold digR; rw [hd]
      rw [hg] at Hr
      clear hg
      go_wp2_with fail
      refine Hr.out.mono ?_
      rintro e w4 ⟨rfl, hb4⟩
      clear k3 Hr
      obtain ⟨hD13, hDm⟩ := digs_digits hd
      have hsD : (⟨D.toArray⟩ : ByteArray).size = D.length := Lib.size_mk D
      have hD13I : (D.length : Int) = 13 := by omega
      have hck := fun wx => checkOfR_any (D.take 12) wx (by rw [List.length_take]; omega) (made_take hDm 12)
      have hex12 : (⟨D.toArray⟩ : ByteArray).extract 0 12 = ⟨(D.take 12).toArray⟩ := slice_ab D 0 12
      obtain ⟨b12, hg12, hb12, hd12⟩ := digit_byte hDm (i := 12) (by omega)
      obtain ⟨k1, k2⟩ := bytes_at hg12
      have hrd : readE r = if checkOf (D.take 12) = digOf D 12 then (D, 0) else ([], 14) := by unfold readE; rw [hd]
      obtain ⟨ck, hckk⟩ : ∃ ck, ck = checkOf (D.take 12) := ⟨_, rfl⟩
      obtain ⟨d12, hd12e⟩ : ∃ d, d = digOf D 12 := ⟨_, rfl⟩
      rw [← hckk] at hck hrd
      rw [← hd12e] at hb12 hd12 hrd
      have Hck := Lib.hid hck; have HRd := Lib.hid hrd
      clear hDm hg12 hckk hd12e hck hrd
      clear hd
      go_upto_region 6 with fail
      refine wp_region_flow [(true, 0), (true, 1), (true, 2), (true, 3), (true, 4), (true, 5), (false, 6), (true, 7)] (fun _ => false) (by kernel_rfl) (by kernel_rfl) (by kernel_rfl) (by kernel_rfl) ?_
      iterate 1
        apply Flow.mv _ rfl
        · intro K' hK'
          simp only [Act.put, Act.eval, List.setIfInBounds_toArray, List.set_cons_zero, List.set_cons_succ, arr_getD, List.getD_cons_zero, List.getD_cons_succ]
          exact hK'
      iterate 1
        apply Flow.calm2 _ _ rfl rfl
        · intro w' hb' K' hK'
          obtain ⟨hc', hf'⟩ := hb'.rule
          go_simp
          try go_ints
          exact hK'
        · intro K' hK'
          simp only [Act.put, List.setIfInBounds_toArray, List.set_cons_zero, List.set_cons_succ]
          exact hK'
      iterate 1
        apply Flow.calm2 _ _ rfl rfl
        · intro w' hb' K' hK'
          obtain ⟨hc', hf'⟩ := hb'.rule
          go_simp
          try go_ints
          exact hK'
        · intro K' hK'
          simp only [Act.put, List.setIfInBounds_toArray, List.set_cons_zero, List.set_cons_succ]
          exact hK'
      iterate 1
        apply Flow.calm2 _ _ rfl rfl
        · intro w' hb' K' hK'
          obtain ⟨hc', hf'⟩ := hb'.rule
          go_simp
          try go_ints
          exact hK'
        · intro K' hK'
          simp only [Act.put, List.setIfInBounds_toArray, List.set_cons_zero, List.set_cons_succ]
          exact hK'
      iterate 1
        apply Flow.mv _ rfl
        · intro K' hK'
          simp only [Act.put, Act.eval, List.setIfInBounds_toArray, List.set_cons_zero, List.set_cons_succ, arr_getD, List.getD_cons_zero, List.getD_cons_succ]
          exact hK'
      iterate 1
        apply Flow.calm2 _ _ rfl rfl
        · intro w' hb' K' hK'
          obtain ⟨hc', hf'⟩ := hb'.rule
          go_simp
          try go_ints
          exact hK'
        · intro K' hK'
          simp only [Act.put, List.setIfInBounds_toArray, List.set_cons_zero, List.set_cons_succ]
          exact hK'
      apply Flow.move rfl
      go_wp2_with fail
      refine (Hck.out _).mono ?_
      rintro e w8 ⟨rfl, HB1⟩
      go_wp2_with fail
      refine ⟨fun _ => (by first | exact HB1 | exact Bl.refl _), ?_⟩
      iterate 1
        apply Flow.calm2 _ _ rfl rfl
        · intro w' hb' K' hK'
          obtain ⟨hc', hf'⟩ := hb'.rule
          go_simp
          try go_ints
          exact hK'
        · intro K' hK'
          simp only [Act.put, List.setIfInBounds_toArray, List.set_cons_zero, List.set_cons_succ]
          exact hK'
      refine Flow.done ?_
      have HB8 := Lib.hid ((hb23.trans hb4).trans (Bl.ofDrew HB1))
      clear HB1 Hck
      by_cases hq : ck = d12
      · have HR2 := Lib.hid (HRd.out.trans (if_pos hq))
        have HF := Lib.hid (show eitherG readE m = (D, 0) by rw [HE.out, HR2.out])
        subst hq
        clear HRd
        go_wp2_with fail
        exact bodyPost_ret (v := .tuple #[.string ⟨D.toArray⟩, .int .i64 0]) (by simp [results, Tryz.results48, go_sem]) rfl ⟨by rw [HF.out], HB8.out⟩
      · have HR2 := Lib.hid (HRd.out.trans (if_neg hq))
        have HF := Lib.hid (show eitherG readE m = ([], 14) by rw [HE.out, HR2.out])
        have hq' : (d12 : Int) ≠ (ck : Int) := by omega
        clear HRd hq
        go_wp2_with fail
        exact bodyPost_ret (v := .tuple #[.string ⟨#[]⟩, .int .i64 14]) (by simp [results, Tryz.results48, go_sem]) rfl ⟨by rw [HF.out], HB8.out⟩
    | none =>
      have hg : digR r = ([], false) := digR_none hd
      rw [hg] at Hr
      have HF := Lib.hid (HE.out.trans (read_none hd))
      clear hg hd
      go_wp2_with fail
      refine Hr.out.mono ?_
      rintro e w4 ⟨rfl, hb4⟩
      clear k3 Hr
      go_wp2_with fail
      rw [rounds_succ]
      go_wp2_with fail
      exact bodyPost_ret (v := .tuple #[.string ⟨#[]⟩, .int .i64 2]) (by simp [results, Tryz.results48, go_sem]) rfl ⟨by rw [HF.out], hb23.trans hb4⟩

end Go.Proofs.YtkipcobpnecmhaaGreatDoor
