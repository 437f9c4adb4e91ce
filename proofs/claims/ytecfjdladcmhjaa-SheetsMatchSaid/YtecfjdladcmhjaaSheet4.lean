/- skew.Sheet. -/
import Derived.Test.YtecfjdladcmhjaaSheet3
namespace Go.Proofs.Ytecfjdladcmhjaa
open Go.RowKit

def sheetErr (W H : Int) (k : Nat) (level part : Int) : Int := firstNZ [pageErr W H k, whenI (!inB level 0 256 || !inB part 1 1000) 3]
theorem sheetErr_zero {W H : Int} {k : Nat} {level part : Int} (h : sheetErr W H k level part = 0) : pageErr W H k = 0 ∧ (0 ≤ level ∧ level ≤ 256) ∧ (1 ≤ part ∧ part ≤ 1000) := by
  unfold sheetErr at h
  by_cases h1 : pageErr W H k = 0
  · cases h2 : inB level 0 256
    · rw [h2] at h; simp only [firstNZ, if_pos h1, whenI, Bool.not_false, Bool.true_or, if_true] at h
      simp at h
    · cases h3 : inB part 1 1000
      · rw [h2, h3] at h; simp only [firstNZ, if_pos h1, whenI, Bool.not_false, Bool.not_true, Bool.false_or, if_true] at h
        simp at h
      · exact ⟨h1, inB_true.1 h2, inB_true.1 h3⟩
  · simp only [firstNZ, if_neg h1] at h; exact absurd h h1
/-- What Sheet answers. -/
def sheetOk (zs : List Int) (W H : Nat) (level part : Int) (is : Bool) (X Y BW BH : Int) : Prop :=
  SheetIs (paperN (rowN (darkL zs W H level) W) part W) H (paperN (colN (darkL zs W H level) W H) part H) W is X Y BW BH

set_option maxRecDepth 100000 in
set_option maxHeartbeats 4000000 in
theorem sheet_any (W H : Int) (A : Option Addr) (an ac : Nat) (zs : List Int) (level part : Int) (w : World) (hA : Reads w 1 A an (zs.map (.int .u8))) (hz : Bytes zs) :
    Calls Try.prog 4 #[.agg #[.int .i64 W, .int .i64 H, .slice A an ac], .int .i64 level, .int .i64 part] w fun e w' => ∃ X Y BW BH err : Int, e = .returned (.tuple #[.agg #[.int .i64 X, .int .i64 Y, .int .i64 BW, .int .i64 BH], .int .i64 err]) ∧
      (sheetErr W H an level part ≠ 0 → err = sheetErr W H an level part ∧ X = 0 ∧ Y = 0 ∧ BW = 0 ∧ BH = 0) ∧ (sheetErr W H an level part = 0 → (err = 10 ∧ sheetOk zs W.toNat H.toNat level part false X Y BW BH) ∨ (err = 0 ∧ sheetOk zs W.toNat H.toNat level part true X Y BW BH)) ∧ Bl w w' := by
  let w2 := ((w).alloc (.cells #[.int .i64 W, .int .i64 H, .slice A an ac] 24)).alloc (.cells #[.int .i64 0, .int .i64 0, .int .i64 0, .int .i64 0] 29)
  have w2b : Bl w w2 := ((Bl.refl w).alloc _).alloc _
  have w21 : Blk w2 (w.heap.size) 24 #[.int .i64 W, .int .i64 H, .slice A an ac] := by
    have h0 := Blk.new (w) 24 #[.int .i64 W, .int .i64 H, .slice A an ac]
    exact (h0.alloc _)
  have w22 : Blk w2 (w.heap.size + 1) 29 #[.int .i64 0, .int .i64 0, .int .i64 0, .int .i64 0] := by
    have h0 := Blk.new ((w).alloc (.cells #[.int .i64 W, .int .i64 H, .slice A an ac] 24)) 29 #[.int .i64 0, .int .i64 0, .int .i64 0, .int .i64 0]
    simp only [World.size_alloc] at h0
    exact h0
  have k1 := w21.all3
  have HA := Lib.hid (hA.bl w2b)
  have Hz := Lib.hid hz
  clear hA hz
  by_cases he : sheetErr W H an level part = 0
  · obtain ⟨hp, hl, hpt⟩ := sheetErr_zero he
    have hlv : lvlErr W H an level = 0 := by unfold lvlErr; rw [hp, inB_true.2 hl]; rfl
    have hzz := sizeErr_zero (pageErr_zero hp).1
    obtain ⟨W, H, rfl, rfl, rfl, u1, u2, u3⟩ := page_nat hp
    have hW : 1 ≤ W ∧ W ≤ 4000 := by omega
    have hH : 1 ≤ H ∧ H ≤ 4000 := by omega
    have c1 := fun w h => toBits_any W H A (W * H) ac zs level w h Hz.out
    rw [hlv] at c1
    have C1 := Lib.hid c1; have He := Lib.hid he; have Hp := Lib.hid hp
    obtain ⟨bs, hbs⟩ : ∃ bs, bs = darkL zs W H level := ⟨_, rfl⟩
    have Hbs := Lib.hid hbs
    clear hlv hzz c1 he hbs
    go_enter Try.func4, Try.ntmps4
    go_wp2_with fail
    refine (checkGray_any _ _ _ _ _ _).mono ?_
    rintro e w3 ⟨rfl, hb3⟩
    have k3 := (w21.bl hb3).all3
    clear k1
    go_wp2_with fail
    refine (C1.out _ (HA.out.bl hb3)).mono ?_
    rintro e w4 ⟨a, b, R, m, d, rfl, hres, hb4⟩
    obtain ⟨R', d', e', hR, _⟩ := hres.1 rfl
    simp only [Value.agg.injEq, List.cons.injEq, Value.int.injEq, Value.slice.injEq, and_true, true_and, Array.mk.injEq, Int.toNat_natCast] at e'
    obtain ⟨ea, eb, eR, em, ed⟩ := e'
    subst ea eb eR em ed
    simp only [Int.toNat_natCast] at hR
    rw [show grid W H (bitF zs W level) = bs from Hbs.out.symm] at hR
    have hb5 : Bl w2 (w4.alloc (.cells #[.int .i64 W, .int .i64 H, .slice R (W * H) d] 27)) := (hb3.trans hb4).alloc _
    have b5 := Blk.new w4 27 #[.int .i64 W, .int .i64 H, .slice R (W * H) d]
    have hR5 := hR.bl ((Bl.refl w4).alloc (.cells #[.int .i64 W, .int .i64 H, .slice R (W * H) d] 27))
    have HR := Lib.hid hR5
    clear hres hR hR5 k3
    go_upto_region 7 with fail
    generalize hw5 : w4.alloc (.cells #[.int .i64 W, .int .i64 H, .slice R (W * H) d] 27) = w5 at hb5 b5 HR ⊢
    have k5 := b5.all3
    clear hw5 hb3 hb4
    go_wp2_with fail
    refine (rows_any W H R (W * H) d bs _ HR.out).mono ?_
    rintro e w6 ⟨P1, m1, d1, rfl, hr1, hb6⟩
    obtain ⟨em1, hR1⟩ := hr1.1 Hp.out
    have em1' : H = m1 := by rw [em1, Int.toNat_natCast]
    clear em1
    subst em1'
    simp only [Int.toNat_natCast] at hR1
    have HR1 := Lib.hid hR1
    have k6 := (b5.bl hb6).all3
    clear k5 hr1 hR1
    go_wp2_with fail
    refine (columns_any W H R (W * H) d bs _ (HR.out.bl hb6)).mono ?_
    rintro e w7 ⟨P2, m2, d2, rfl, hr2, hb7⟩
    obtain ⟨em2, hR2⟩ := hr2.1 Hp.out
    have em2' : W = m2 := by rw [em2, Int.toNat_natCast]
    clear em2
    subst em2'
    simp only [Int.toNat_natCast] at hR2
    have HR2 := Lib.hid hR2
    have hb57 := hb6.trans hb7
    have k7 := (b5.bl hb57).all3
    clear k6 hr2 hR2
    go_wp2_with fail
    refine (kept_any H P1 d1 (rowN bs W) part (W : Int) _ (HR1.out.bl hb7) hH.2 (fun i => by have := rowN_le bs W i; omega) hpt (by omega)).mono ?_
    rintro e w8 ⟨y, h, is1, rfl, hx1, hb8⟩
    have Hx1 := Lib.hid hx1
    have hb58 := hb57.trans hb8
    have k8 := (b5.bl hb58).all3
    clear k7 hx1
    go_wp2_with fail
    refine (kept_any W P2 d2 (colN bs W H) part (H : Int) _ (HR2.out.bl hb8) hW.2 (fun i => by have := colN_le bs W H i; omega) hpt (by omega)).mono ?_
    rintro e w9 ⟨x, v, is2, rfl, hx2, hb9⟩
    have Hx2 := Lib.hid hx2
    have hb59 := hb58.trans hb9
    have k9 := (w22.bl (hb5.trans hb59)).all4
    have hle := w2b.trans (hb5.trans hb59)
    clear k8 hx2
    have hno : (NoEnds (paperN (rowN bs W) part W) H ∨ NoEnds (paperN (colN bs W H) part H) W) → sheetOk zs W H level part false 0 0 0 0 := fun hh => by
      unfold sheetOk; rw [← Hbs.out]; exact Or.inl ⟨rfl, hh, rfl, rfl, rfl, rfl⟩
    cases is1
    · have hn1 : NoEnds (paperN (rowN bs W) part W) H := by
        rcases Hx1.out with ⟨_, h⟩ | ⟨h, _⟩
        · exact h
        · cases h
      have Hfin := Lib.hid (hno (Or.inl hn1))
      clear hn1 hno
      go_wp2_with fail
      refine bodyPost_ret (v := .tuple #[.agg #[.int .i64 0, .int .i64 0, .int .i64 0, .int .i64 0], .int .i64 10]) (by simp [results, Try.results4, go_sem, k9]) rfl ⟨0, 0, 0, 0, 10, rfl, fun h => absurd He.out h, fun _ => Or.inl ⟨rfl, by simpa using Hfin.out⟩, ?_⟩
      exact ((((hle.setCell (by simp) _).setCell (by simp) _).setCell (by simp) _).setCell (by simp) _)
    · cases is2
      · have hn1 : NoEnds (paperN (colN bs W H) part H) W := by
          rcases Hx2.out with ⟨_, h⟩ | ⟨h, _⟩
          · exact h
          · cases h
        have Hfin := Lib.hid (hno (Or.inr hn1))
        clear hn1 hno
        go_wp2_with fail
        refine bodyPost_ret (v := .tuple #[.agg #[.int .i64 0, .int .i64 0, .int .i64 0, .int .i64 0], .int .i64 10]) (by simp [results, Try.results4, go_sem, k9]) rfl ⟨0, 0, 0, 0, 10, rfl, fun h => absurd He.out h, fun _ => Or.inl ⟨rfl, by simpa using Hfin.out⟩, ?_⟩
        exact ((((hle.setCell (by simp) _).setCell (by simp) _).setCell (by simp) _).setCell (by simp) _)
      · have he1 : ∃ k r : Nat, Ends (paperN (rowN bs W) part W) H k r ∧ y = k ∧ h = (r : Int) - k + 1 := by
          rcases Hx1.out with ⟨h, _⟩ | ⟨_, h⟩
          · cases h
          · exact h
        have he2 : ∃ k r : Nat, Ends (paperN (colN bs W H) part H) W k r ∧ x = k ∧ v = (r : Int) - k + 1 := by
          rcases Hx2.out with ⟨h, _⟩ | ⟨_, h⟩
          · cases h
          · exact h
        obtain ⟨t, b, q1, rfl, rfl⟩ := he1
        obtain ⟨l, r, q2, rfl, rfl⟩ := he2
        have hbox : sheetOk zs W H level part true l t ((r : Int) - l + 1) ((b : Int) - t + 1) := by
          unfold sheetOk; rw [← Hbs.out]; exact Or.inr ⟨rfl, t, b, l, r, q1, q2, rfl, rfl, rfl, rfl⟩
        have Hfin := Lib.hid hbox
        clear q1 q2 hbox hno
        go_wp2_with fail
        refine bodyPost_ret (v := .tuple #[.agg #[.int .i64 l, .int .i64 t, .int .i64 ((r : Int) - l + 1), .int .i64 ((b : Int) - t + 1)], .int .i64 0]) (by simp [results, Try.results4, go_sem, k9]) rfl ⟨_, _, _, _, 0, rfl, fun h => absurd He.out h, fun _ => Or.inr ⟨rfl, by simpa using Hfin.out⟩, ?_⟩
        exact ((((hle.setCell (by simp) _).setCell (by simp) _).setCell (by simp) _).setCell (by simp) _)
  · have Hne := Lib.hid he
    by_cases hp : pageErr W H an = 0
    · have e3 : sheetErr W H an level part = 3 := by
        unfold sheetErr at he ⊢
        simp only [firstNZ, if_pos hp] at he ⊢
        cases hi : (!inB level 0 256 || !inB part 1 1000)
        · rw [hi] at he; exact absurd (by rfl) he
        · rfl
      have E3 := Lib.hid e3
      rcases (show level < 0 ∨ (¬ level < 0 ∧ 256 < level) ∨ (¬ level < 0 ∧ ¬ 256 < level ∧ part < 1) ∨ (¬ level < 0 ∧ ¬ 256 < level ∧ ¬ part < 1 ∧ 1000 < part) by
        by_cases g1 : 0 ≤ level ∧ level ≤ 256
        · by_cases g2 : 1 ≤ part ∧ part ≤ 1000
          · exfalso
            apply he
            unfold sheetErr
            rw [hp, inB_true.2 g1, inB_true.2 g2]
            rfl
          · omega
        · omega) with g | ⟨g1, g2⟩ | ⟨g1, g2, g3⟩ | ⟨g1, g2, g3, g4⟩
      all_goals
        clear he e3
        go_enter Try.func4, Try.ntmps4
        go_wp2_with fail
        refine (checkGray_any _ _ _ _ _ _).mono ?_
        rintro e w3 ⟨rfl, hb3⟩
        have k9 := (w22.bl hb3).all4
        have hle := w2b.trans hb3
        go_wp2_with fail
        refine bodyPost_ret (v := .tuple #[.agg #[.int .i64 0, .int .i64 0, .int .i64 0, .int .i64 0], .int .i64 3]) (by simp [results, Try.results4, go_sem, k9]) rfl ⟨0, 0, 0, 0, 3, rfl, fun _ => ⟨E3.out.symm, rfl, rfl, rfl, rfl⟩, fun h => absurd h Hne.out, ?_⟩
        exact ((((hle.setCell (by simp) _).setCell (by simp) _).setCell (by simp) _).setCell (by simp) _)
    · have e3 : sheetErr W H an level part = pageErr W H an := by unfold sheetErr; simp only [firstNZ, if_neg hp]
      have E3 := Lib.hid e3
      have hq : (pageErr W H an != 0) = true := by simp [hp]
      clear he e3 hp
      go_enter Try.func4, Try.ntmps4
      go_wp2_with fail
      refine (checkGray_any _ _ _ _ _ _).mono ?_
      rintro e w3 ⟨rfl, hb3⟩
      have k9 := (w22.bl hb3).all4
      have hle := w2b.trans hb3
      go_wp2_with fail
      refine bodyPost_ret (v := .tuple #[.agg #[.int .i64 0, .int .i64 0, .int .i64 0, .int .i64 0], .int .i64 (pageErr W H an)]) (by simp [results, Try.results4, go_sem, k9]) rfl ⟨0, 0, 0, 0, _, rfl, fun _ => ⟨E3.out.symm, rfl, rfl, rfl, rfl⟩, fun h => absurd h Hne.out, ?_⟩
      exact ((((hle.setCell (by simp) _).setCell (by simp) _).setCell (by simp) _).setCell (by simp) _)

end Go.Proofs.Ytecfjdladcmhjaa
