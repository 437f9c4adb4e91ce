/- The law on texts of pages. -/
import Derived.Test.YtkhajhcfplicpaaDoorS22
import Derived.Test.YtkhajhcfplicpaaDoorS24
import Derived.Test.YtkhajhcfplicpaaDoorS26
import Derived.Test.YtkhajhcfplicpaaDoorS27
import Derived.Deep.CutRange
import Derived.Deep.Light

namespace Go.Proofs.YtkhajhcfplicpaaDoor
open Go.RowKit Go.Shelf

theorem print_any (W H : Int) (A : Option Addr) (an ac : Nat) (bs : List Bool) (w : World) (hA : Reads w 1 A an (bs.map .bool)) :
    Calls Tryd.prog 44 #[.agg #[.int .i64 W, .int .i64 H, .slice A an ac]] w fun e w' => ∃ s : ByteArray, e = .returned (.tuple #[.string s, .int .i64 (printErr W H an)]) ∧ (printErr W H an ≠ 0 → s = ⟨#[]⟩) ∧ (printErr W H an = 0 → s = ⟨(prL bs W.toNat H.toNat).toArray⟩) ∧ Bl w w' := by
  by_cases he : printErr W H an = 0
  · obtain ⟨hp, h1, h2⟩ := printErr_zero he
    have hz := sizeErr_zero (pageErr_zero hp).1
    obtain ⟨W, H, rfl, rfl, rfl, u1, u2, u3⟩ := page_nat hp
    refine (print_ok W H A ac bs w hA hp (by omega) (by omega)).mono ?_
    rintro e w' ⟨rfl, hb⟩
    exact ⟨_, by rw [he], fun h => absurd he h, fun _ => by simp, hb⟩
  · refine (print_bad W H A an ac w he).mono ?_
    rintro e w' ⟨rfl, hb⟩
    exact ⟨_, rfl, fun _ => rfl, fun h => absurd h he, hb⟩

theorem parse_printed {bs : List Bool} {W H : Nat} (w : World) (hW : 1 ≤ W ∧ W ≤ 200) (hH : 1 ≤ H ∧ H ≤ 200) (hn : bs.length = W * H) (hM : CutOk w) :
    Calls Tryd.prog 45 #[.string ⟨(prL bs W H).toArray⟩] w fun e w' => ∃ R c, e = .returned (.tuple #[.agg #[.int .i64 W, .int .i64 H, .slice R (W * H) c], .int .i64 0, .int .i64 0]) ∧ Reads w' 1 R (W * H) (bs.map .bool) ∧ Bl w w' := by
  have hpl : (prL bs W H).length ≤ 9223372036854775807 := by
    rw [prL_len]
    have := Nat.mul_le_mul hH.2 (show W + 1 ≤ 201 by omega)
    omega
  refine (parse_any (prL bs W H) w hM hpl).mono ?_
  rintro e w' ⟨h, hb⟩
  rw [page_printed hW hH hn] at h
  obtain ⟨R, c, rfl, hr⟩ := h
  have hr' : Reads w' 1 R bs.length (bs.map .bool) := hr
  rw [hn] at hr'
  refine ⟨R, c, ?_, hr', hb⟩
  show Ending.returned (.tuple #[.agg #[.int .i64 W, .int .i64 H, .slice R bs.length c], .int .i64 0, .int .i64 0]) = _
  rw [hn]
theorem parseRes_open {w : World} {V U : Nat} {Q : List Bool} {a : Nat} {k : Int} {e : Ending} (h : ParseRes w (V, U, Q, a, k) e) : ∃ R c, e = .returned (.tuple #[.agg #[.int .i64 V, .int .i64 U, .slice R Q.length c], .int .i64 a, .int .i64 k]) ∧ Reads w 1 R Q.length (Q.map .bool) := h

set_option maxRecDepth 100000 in
set_option maxHeartbeats 40000000 in
theorem lawPrint_any (W H : Int) (A : Option Addr) (an ac : Nat) (bs : List Bool) (t : List UInt8) (w : World) (hA : Reads w 1 A an (bs.map .bool)) (hM : CutOk w) (h63 : t.length ≤ 9223372036854775807) :
    Calls Tryd.prog 5 #[.agg #[.int .i64 W, .int .i64 H, .slice A an ac], .string ⟨t.toArray⟩] w fun e w2 => e = .returned (.bool true) ∧ Bl w w2 := by
  let w1 := (w).alloc (.cells #[.int .i64 W, .int .i64 H, .slice A an ac] 24)
  have w1b : Bl w w1 := (Bl.refl w).alloc _
  have w11 : Blk w1 (w.heap.size) 24 #[.int .i64 W, .int .i64 H, .slice A an ac] := by
    have h0 := Blk.new (w) 24 #[.int .i64 W, .int .i64 H, .slice A an ac]
    exact h0
  have HA := Lib.hid (hA.bl w1b); have HM := Lib.hid (hM.bl w1b); have H63 := Lib.hid h63
  have HN := Lib.hid (show bs.length = an by have := hA.1; simpa using this)
  clear hA hM h63
  have k1 := w11.all3
  obtain ⟨E, hE⟩ : ∃ E, E = printErr W H an := ⟨_, rfl⟩
  have cp := fun w h => print_any W H A an ac bs w h
  rw [← hE] at cp
  have Cp := Lib.hid cp; have HE := Lib.hid hE
  clear cp hE
  go_enter Tryd.func5, Tryd.ntmps5
  go_wp2_with fail
  refine (Cp.out _ HA.out).mono ?_
  rintro e w2 ⟨s, rfl, s1, s2, hb2⟩
  have S1 := Lib.hid s1; have S2 := Lib.hid s2
  clear s1 s2 k1
  go_upto_region 2 with fail
  have k2 := (w11.bl hb2).all3
  go_cut [7] from 21 to 33 (fun s7 wc => s7 = .int .i64 E ∧ Bl w2 wc)
  case first =>
    by_cases hW : 200 < W
    · have hf : firstNZ [pageErr W H an, whenI true 4] = E := by rw [HE.out]; unfold printErr; rw [decide_eq_true hW, Bool.true_or]
      refine wp_region_flow [(true, 0), (true, 2), (true, 3), (true, 4), (false, 1), (true, 5), (true, 6), (true, 7), (true, 8), (true, 9), (false, 10), (false, 11), (false, 12), (true, 13)] (fun _ => false) (by kernel_rfl) (by kernel_rfl) (by kernel_rfl) (by kernel_rfl) ?_
      iterate 1
        apply Flow.calm2 _ _ rfl rfl
        · intro w' hb' K' hK'
          obtain ⟨hc', hf'⟩ := hb'.rule
          go_simp
          try go_ints
          exact hK'
        · intro K' hK'
          simp only [Act.put, List.setIfInBounds_toArray, List.set_cons_zero, List.set_cons_succ]
          exact hK'
      iterate 1
        apply Flow.calm2 _ _ rfl rfl
        · intro w' hb' K' hK'
          obtain ⟨hc', hf'⟩ := hb'.rule
          go_simp
          try go_ints
          exact hK'
        · intro K' hK'
          simp only [Act.put, List.setIfInBounds_toArray, List.set_cons_zero, List.set_cons_succ]
          exact hK'
      iterate 1
        apply Flow.calm2 _ _ rfl rfl
        · intro w' hb' K' hK'
          obtain ⟨hc', hf'⟩ := hb'.rule
          go_simp
          try go_ints
          exact hK'
        · intro K' hK'
          simp only [Act.put, List.setIfInBounds_toArray, List.set_cons_zero, List.set_cons_succ]
          exact hK'
      iterate 1
        apply Flow.calm2 _ _ rfl rfl
        · intro w' hb' K' hK'
          obtain ⟨hc', hf'⟩ := hb'.rule
          go_simp
          try go_ints
          exact hK'
        · intro K' hK'
          simp only [Act.put, List.setIfInBounds_toArray, List.set_cons_zero, List.set_cons_succ]
          exact hK'
      apply Flow.move rfl
      go_wp2_with fail
      refine (bitsError_any _ _ _ _ _ _).mono ?_
      rintro e w3 ⟨rfl, HB1⟩
      have hb3 : Bl w2 w3 := Bl.ofDrew HB1
      have k3 := (w11.bl (hb2.trans hb3)).all3
      go_wp2_with fail
      refine ⟨fun _ => (by first | exact HB1 | exact Bl.refl _), ?_⟩
      iterate 1
        apply Flow.mv _ rfl
        · intro K' hK'
          simp only [Act.put, Act.eval, List.setIfInBounds_toArray, List.set_cons_zero, List.set_cons_succ, arr_getD, List.getD_cons_zero, List.getD_cons_succ]
          exact hK'
      first
        | (apply Flow.pass rfl (by rfl))
        | (apply Flow.calmG _ rfl (by rfl)
           · intro w' hb'
             obtain ⟨hc', hf'⟩ := hb'.rule
             go_simp
             all_goals (try rfl))
      simp only [Act.put, List.setIfInBounds_toArray, List.set_cons_zero, List.set_cons_succ]
      try go_ints
      first
        | (apply Flow.pass rfl (by rfl))
        | (apply Flow.calmG _ rfl (by rfl)
           · intro w' hb'
             obtain ⟨hc', hf'⟩ := hb'.rule
             go_simp
             all_goals (try rfl))
      simp only [Act.put, List.setIfInBounds_toArray, List.set_cons_zero, List.set_cons_succ]
      try go_ints
      first
        | (apply Flow.pass rfl (by rfl))
        | (apply Flow.calmG _ rfl (by rfl)
           · intro w' hb'
             obtain ⟨hc', hf'⟩ := hb'.rule
             go_simp
             all_goals (try rfl))
      simp only [Act.put, List.setIfInBounds_toArray, List.set_cons_zero, List.set_cons_succ]
      try go_ints
      iterate 1
        apply Flow.calm2 _ _ rfl rfl
        · intro w' hb' K' hK'
          obtain ⟨hc', hf'⟩ := hb'.rule
          go_simp
          try go_ints
          exact hK'
        · intro K' hK'
          simp only [Act.put, List.setIfInBounds_toArray, List.set_cons_zero, List.set_cons_succ]
          exact hK'
      apply Flow.move rfl
      go_wp2_with fail
      refine (when_any _ _ _).mono ?_
      rintro e w' ⟨rfl, rfl⟩
      go_wp2_with fail
      refine ⟨fun _ => (by first | exact HB2 | exact Bl.refl _), ?_⟩
      apply Flow.move rfl
      go_wp2_with fail
      first | refine ⟨fun _ => ?_, ?_⟩ | refine ⟨?_, ?_⟩
      · repeat' (first | exact Bl.refl _ | refine Bl.drewL ?_ | refine Bl.drew ?_ | refine Bl.alloc ?_ _)
      apply Flow.move rfl
      go_wp2_with fail
      refine (first2_any _ _ _ _ (Blk.new _ _ _)).mono ?_
      rintro e w' ⟨rfl, rfl⟩
      go_wp2_with fail
      refine ⟨fun _ => (by first | exact HB4 | exact Bl.refl _), ?_⟩
      iterate 1
        apply Flow.asg _ rfl
        · intro K' hK'
          simp only [Act.put, Act.eval, List.setIfInBounds_toArray, List.set_cons_zero, List.set_cons_succ, arr_getD, List.getD_cons_zero, List.getD_cons_succ]
          exact hK'
      refine Flow.done ?_
      go_wp2_with fail
      go_meet
      case rel => exact ⟨rfl, hb3.alloc _⟩
    · have hf : firstNZ [pageErr W H an, whenI (decide (200 < H)) 4] = E := by rw [HE.out]; unfold printErr; rw [decide_eq_false hW, Bool.false_or]
      refine wp_region_flow [(true, 0), (true, 2), (true, 3), (true, 4), (false, 1), (true, 5), (true, 6), (true, 7), (true, 8), (true, 9), (false, 10), (false, 11), (false, 12), (true, 13)] (fun _ => false) (by kernel_rfl) (by kernel_rfl) (by kernel_rfl) (by kernel_rfl) ?_
      iterate 1
        apply Flow.calm2 _ _ rfl rfl
        · intro w' hb' K' hK'
          obtain ⟨hc', hf'⟩ := hb'.rule
          go_simp
          try go_ints
          exact hK'
        · intro K' hK'
          simp only [Act.put, List.setIfInBounds_toArray, List.set_cons_zero, List.set_cons_succ]
          exact hK'
      iterate 1
        apply Flow.calm2 _ _ rfl rfl
        · intro w' hb' K' hK'
          obtain ⟨hc', hf'⟩ := hb'.rule
          go_simp
          try go_ints
          exact hK'
        · intro K' hK'
          simp only [Act.put, List.setIfInBounds_toArray, List.set_cons_zero, List.set_cons_succ]
          exact hK'
      iterate 1
        apply Flow.calm2 _ _ rfl rfl
        · intro w' hb' K' hK'
          obtain ⟨hc', hf'⟩ := hb'.rule
          go_simp
          try go_ints
          exact hK'
        · intro K' hK'
          simp only [Act.put, List.setIfInBounds_toArray, List.set_cons_zero, List.set_cons_succ]
          exact hK'
      iterate 1
        apply Flow.calm2 _ _ rfl rfl
        · intro w' hb' K' hK'
          obtain ⟨hc', hf'⟩ := hb'.rule
          go_simp
          try go_ints
          exact hK'
        · intro K' hK'
          simp only [Act.put, List.setIfInBounds_toArray, List.set_cons_zero, List.set_cons_succ]
          exact hK'
      apply Flow.move rfl
      go_wp2_with fail
      refine (bitsError_any _ _ _ _ _ _).mono ?_
      rintro e w3 ⟨rfl, HB1⟩
      have hb3 : Bl w2 w3 := Bl.ofDrew HB1
      have k3 := (w11.bl (hb2.trans hb3)).all3
      go_wp2_with fail
      refine ⟨fun _ => (by first | exact HB1 | exact Bl.refl _), ?_⟩
      iterate 1
        apply Flow.mv _ rfl
        · intro K' hK'
          simp only [Act.put, Act.eval, List.setIfInBounds_toArray, List.set_cons_zero, List.set_cons_succ, arr_getD, List.getD_cons_zero, List.getD_cons_succ]
          exact hK'
      first
        | (apply Flow.pass rfl (by rfl))
        | (apply Flow.calmG _ rfl (by rfl)
           · intro w' hb'
             obtain ⟨hc', hf'⟩ := hb'.rule
             go_simp
             all_goals (try rfl))
      simp only [Act.put, List.setIfInBounds_toArray, List.set_cons_zero, List.set_cons_succ]
      try go_ints
      first
        | (apply Flow.pass rfl (by rfl))
        | (apply Flow.calmG _ rfl (by rfl)
           · intro w' hb'
             obtain ⟨hc', hf'⟩ := hb'.rule
             go_simp
             all_goals (try rfl))
      simp only [Act.put, List.setIfInBounds_toArray, List.set_cons_zero, List.set_cons_succ]
      try go_ints
      first
        | (apply Flow.pass rfl (by rfl))
        | (apply Flow.calmG _ rfl (by rfl)
           · intro w' hb'
             obtain ⟨hc', hf'⟩ := hb'.rule
             go_simp
             all_goals (try rfl))
      simp only [Act.put, List.setIfInBounds_toArray, List.set_cons_zero, List.set_cons_succ]
      try go_ints
      iterate 1
        apply Flow.calm2 _ _ rfl rfl
        · intro w' hb' K' hK'
          obtain ⟨hc', hf'⟩ := hb'.rule
          go_simp
          try go_ints
          exact hK'
        · intro K' hK'
          simp only [Act.put, List.setIfInBounds_toArray, List.set_cons_zero, List.set_cons_succ]
          exact hK'
      apply Flow.move rfl
      go_wp2_with fail
      refine (when_any _ _ _).mono ?_
      rintro e w' ⟨rfl, rfl⟩
      go_wp2_with fail
      refine ⟨fun _ => (by first | exact HB2 | exact Bl.refl _), ?_⟩
      apply Flow.move rfl
      go_wp2_with fail
      first | refine ⟨fun _ => ?_, ?_⟩ | refine ⟨?_, ?_⟩
      · repeat' (first | exact Bl.refl _ | refine Bl.drewL ?_ | refine Bl.drew ?_ | refine Bl.alloc ?_ _)
      apply Flow.move rfl
      go_wp2_with fail
      refine (first2_any _ _ _ _ (Blk.new _ _ _)).mono ?_
      rintro e w' ⟨rfl, rfl⟩
      go_wp2_with fail
      refine ⟨fun _ => (by first | exact HB4 | exact Bl.refl _), ?_⟩
      iterate 1
        apply Flow.asg _ rfl
        · intro K' hK'
          simp only [Act.put, Act.eval, List.setIfInBounds_toArray, List.set_cons_zero, List.set_cons_succ, arr_getD, List.getD_cons_zero, List.getD_cons_succ]
          exact hK'
      refine Flow.done ?_
      go_wp2_with fail
      go_meet
      case rel => exact ⟨rfl, hb3.alloc _⟩
  case rest =>
    rename World => w4
    obtain ⟨rfl, hcut⟩ := hcut
    have hb4 := hb2.trans hcut
    clear hcut k2 hb2
    go_upto_region 3 with fail
    go_cut [48] from 34 to 48 (fun s48 wc => s48 = .bool false ∧ Bl w4 wc)
    case first =>
      by_cases he : E = 0
      · have hq2 : (E != 0) = false := by simp [he]
        clear he
        go_wp2_with fail
        refine (pages_any _).mono ?_
        rintro e w5 ⟨rfl, hb5⟩
        go_wp2_with fail
        go_meet
        case rel => exact ⟨rfl, hb5⟩
      · have hq2 : (E != 0) = true := by simp [he]
        obtain rfl := S1.out he
        clear he
        go_wp2_with fail
        refine (pages_any _).mono ?_
        rintro e w5 ⟨rfl, hb5⟩
        go_wp2_with fail
        go_meet
        case rel => exact ⟨rfl, hb5⟩
    case rest =>
    rename World => w5
    obtain ⟨rfl, hcut⟩ := hcut
    have hc5 := hb4.trans hcut
    clear hcut hb4
    go_upto_if 50 with fail
    go_cut [] from 50 to 74 (fun wc => Bl w5 wc)
    case first =>
      by_cases he : E = 0
      · have hq : (E == 0) = true := by simp [he]
        have hq2 : (E != 0) = false := by simp [he]
        obtain ⟨hp, h1, h2⟩ := printErr_zero (HE.out.symm.trans he)
        have hs := S2.out he
        have hz := sizeErr_zero (pageErr_zero hp).1
        obtain ⟨W, H, rfl, rfl, rfl, u1, u2, u3⟩ := page_nat hp
        simp only [Int.toNat_natCast] at hs
        have a1 : 1 ≤ W ∧ W ≤ 200 := by go_light; omega
        have a2 : 1 ≤ H ∧ H ≤ 200 := by go_light; omega
        have hpr := fun w h => parse_printed (bs := bs) w a1 a2 HN.out h
        have Hpr := Lib.hid hpr
        have k5 := (w11.bl hc5).all3
        subst hs
        rw [hq]
        have hWH : W * H ≤ 1099511627776 := Nat.le_trans u3 (by decide)
        have HWH := Lib.hid hWH
        clear hp h1 h2 hz hpr he S1 S2 hWH
        go_wp2_with fail
        refine (Hpr.out _ (HM.out.bl hc5)).mono ?_
        rintro e w6 ⟨R, c, rfl, hR, hb6⟩
        have b7 := Blk.new w6 24 #[.int .i64 W, .int .i64 H, .slice R (W * H) c]
        have hb7 : Bl w5 (w6.alloc (.cells #[.int .i64 W, .int .i64 H, .slice R (W * H) c] 24)) := hb6.alloc _
        have hR7 := hR.bl ((Bl.refl w6).alloc (.cells #[.int .i64 W, .int .i64 H, .slice R (W * H) c] 24))
        have HR7 := Lib.hid hR7
        clear hR hR7 k5
        go_upto_region 7 with fail
        generalize hw7 : w6.alloc (.cells #[.int .i64 W, .int .i64 H, .slice R (W * H) c] 24) = w7 at b7 hb7 HR7 ⊢
        clear hw7 hb6
        have k7 := (w11.bl (hc5.trans hb7)).all3
        go_wp2_with fail
        refine (printed_any W H A ac bs _ (HA.out.bl (hc5.trans hb7)) a1.2 a2.2).mono ?_
        rintro e w8 ⟨rfl, hb8⟩
        have hb8' := hb7.trans hb8
        have k8 := (w11.bl (hc5.trans hb8')).all3
        have k9 := (b7.bl hb8).all3
        clear k7
        go_wp2_with fail
        refine (sameBitsG_any W H A R (W * H) ac c bs _ (HA.out.bl (hc5.trans hb8')) (HR7.out.bl hb8) HWH.out).mono ?_
        rintro e w9 ⟨rfl, hb9⟩
        go_wp2_with fail
        go_meet
        case rel => exact hb8'.trans hb9
      · have hq : (E == 0) = false := by simp [he]
        rw [hq]
        clear he
        go_wp2_with fail
        go_meet
        case rel => exact Bl.refl _
    case rest =>
      rename World => w10
      have hc10 := hc5.trans hcut
      clear hcut S1 S2 Cp HE hc5
      go_wp2_with fail
      obtain ⟨⟨V, U, Q, at_, er⟩, hpo⟩ : ∃ p : PageR, p = pageOf t := ⟨_, rfl⟩
      have hp1 := fun w h => parse_any t w h H63.out
      have hp2 := fun w h => parsedPage_any t w h H63.out
      have hql : Q.length ≤ 1099511627776 := by
        have h := pageOf_len t
        rw [← hpo] at h
        have h2 : Q.length ≤ 40200 := h
        omega
      rw [← hpo] at hp1 hp2
      have Hp1 := Lib.hid hp1; have Hp2 := Lib.hid hp2; have Hql := Lib.hid hql
      clear hp1 hp2 hpo hql
      refine (Hp1.out _ (HM.out.bl hc10)).mono ?_
      rintro e w12 ⟨h1, hb12⟩
      obtain ⟨R1, c1, rfl, hr1⟩ := parseRes_open h1
      have b13 := Blk.new w12 24 #[.int .i64 V, .int .i64 U, .slice R1 Q.length c1]
      have hc13 : Bl w1 (w12.alloc (.cells #[.int .i64 V, .int .i64 U, .slice R1 Q.length c1] 24)) := (hc10.trans hb12).alloc _
      have HR1 := Lib.hid (hr1.bl ((Bl.refl w12).alloc (.cells #[.int .i64 V, .int .i64 U, .slice R1 Q.length c1] 24)))
      clear h1 hr1
      go_upto_region 10 with fail
      generalize hw13 : w12.alloc (.cells #[.int .i64 V, .int .i64 U, .slice R1 Q.length c1] 24) = w13 at b13 hc13 HR1 ⊢
      clear hw13 hb12 hc10
      go_wp2_with fail
      refine (Hp2.out _ (HM.out.bl hc13)).mono ?_
      rintro e w14 ⟨h1, hb14⟩
      obtain ⟨R2, c2, rfl, hr2⟩ := parseRes_open h1
      have b15 := Blk.new w14 24 #[.int .i64 V, .int .i64 U, .slice R2 Q.length c2]
      have hb15 : Bl w13 (w14.alloc (.cells #[.int .i64 V, .int .i64 U, .slice R2 Q.length c2] 24)) := hb14.alloc _
      have HR2 := Lib.hid (hr2.bl ((Bl.refl w14).alloc (.cells #[.int .i64 V, .int .i64 U, .slice R2 Q.length c2] 24)))
      clear h1 hr2
      go_upto_region 11 with fail
      generalize hw15 : w14.alloc (.cells #[.int .i64 V, .int .i64 U, .slice R2 Q.length c2] 24) = w15 at b15 hb15 HR2 ⊢
      clear hw15 hb14
      have k13 := (b13.bl hb15).all3
      have k15 := b15.all3
      go_wp2_with fail
      refine (sameBitsG_any V U R1 R2 Q.length c1 c2 Q _ (HR1.out.bl hb15) HR2.out Hql.out).mono ?_
      rintro e w16 ⟨rfl, hb16⟩
      go_wp2_with fail
      go_ret
      exact ⟨rfl, ((w1b.trans hc13).trans hb15).trans hb16⟩

end Go.Proofs.YtkhajhcfplicpaaDoor
