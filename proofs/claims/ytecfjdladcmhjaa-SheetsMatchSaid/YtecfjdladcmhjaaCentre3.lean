/- skew.Centre. -/
import Derived.Test.YtecfjdladcmhjaaCentre2
namespace Go.Proofs.Ytecfjdladcmhjaa
open Go.RowKit

def MidRes (B : Nat) (w : World) (E : Int) (bs : List Bool) (W H w' h' : Nat) (a b : Int) (R : Option Addr) (m d : Nat) : Prop :=
  (E ≠ 0 → a = 0 ∧ b = 0 ∧ R = none ∧ m = 0 ∧ d = 0) ∧
  (E = 0 → ∃ X Y BW BH : Nat, BoundsIs bs W H true X Y BW BH ∧ NPage B w (.agg #[.int .i64 a, .int .i64 b, .slice R m d]) w' h' ((grid w' h' (centreF bs W X Y BW BH w' h')).map .bool))
theorem MidRes.zero (B : Nat) (w : World) {E : Int} (bs : List Bool) (W H w' h' : Nat) (h : E ≠ 0) : MidRes B w E bs W H w' h' 0 0 none 0 0 :=
  ⟨fun _ => ⟨rfl, rfl, rfl, rfl, rfl⟩, fun e => absurd e h⟩
theorem blank_pix (w h x y : Nat) : pix (List.replicate (w * h) false) w x y = false := by
  unfold pix
  rw [List.getD_eq_getElem?_getD, List.getElem?_replicate]
  split <;> rfl

set_option maxRecDepth 100000 in
set_option maxHeartbeats 4000000 in
theorem centre_bad (W H : Int) (A : Option Addr) (an ac : Nat) (bs : List Bool) (w' h' : Int) (w : World) (hA : Reads w 1 A an (bs.map .bool)) (he : centreErr W H an w' h' (inkB bs an) ≠ 0) :
    Calls Try.prog 14 #[.agg #[.int .i64 W, .int .i64 H, .slice A an ac], .int .i64 w', .int .i64 h'] w fun e w2 => e = .returned (.tuple #[.agg #[.int .i64 0, .int .i64 0, .slice none 0 0], .int .i64 (centreErr W H an w' h' (inkB bs an))]) ∧ Bl w w2 := by
  let w2 := ((w).alloc (.cells #[.int .i64 W, .int .i64 H, .slice A an ac] 27)).alloc (.cells #[.int .i64 0, .int .i64 0, .slice none 0 0] 27)
  have w2b : Bl w w2 := ((Bl.refl w).alloc _).alloc _
  have w21 : Blk w2 (w.heap.size) 27 #[.int .i64 W, .int .i64 H, .slice A an ac] := by
    have h0 := Blk.new (w) 27 #[.int .i64 W, .int .i64 H, .slice A an ac]
    exact (h0.alloc _)
  have w22 : Blk w2 (w.heap.size + 1) 27 #[.int .i64 0, .int .i64 0, .slice none 0 0] := by
    have h0 := Blk.new ((w).alloc (.cells #[.int .i64 W, .int .i64 H, .slice A an ac] 27)) 27 #[.int .i64 0, .int .i64 0, .slice none 0 0]
    simp only [World.size_alloc] at h0
    exact h0
  have k1 := w21.all3
  have HA := Lib.hid (hA.bl w2b)
  clear hA
  by_cases hp : pageErr W H an = 0
  · have hq : (pageErr W H an != 0) = false := by simp [hp]
    by_cases hs : sizeErr w' h' = 0
    · have hi : inkB bs an = false := by
        cases hi : inkB bs an
        · rfl
        · exfalso
          apply he
          unfold centreErr
          rw [hp, hs, hi]
          rfl
      have e10 : centreErr W H an w' h' (inkB bs an) = 10 := by
        unfold centreErr
        rw [hp, hs, hi]
        rfl
      rw [e10]
      have hz := sizeErr_zero hs
      obtain ⟨w', rfl⟩ := Int.eq_ofNat_of_zero_le (show 0 ≤ w' by omega)
      obtain ⟨h', rfl⟩ := Int.eq_ofNat_of_zero_le (show 0 ≤ h' by omega)
      have Hs := Lib.hid hs; have Hp := Lib.hid hp; have Hi := Lib.hid hi
      clear he e10 hz hs hi
      go_enter Try.func14, Try.ntmps14
      go_wp2_with fail
      refine (checkBits_any _ _ _ _ _ _).mono ?_
      rintro e w3 ⟨rfl, hb3⟩
      go_wp2_with fail
      refine (blank_ok w' h' _ Hs.out).mono ?_
      rintro e w4 ⟨g, rfl, hg, hb4⟩
      have hb5 : Bl w2 (w4.alloc (.cells #[.int .i64 w', .int .i64 h', .slice (some ⟨g, 0, none⟩) (w' * h') (w' * h')] 27)) := (hb3.trans hb4).alloc _
      go_upto_region 5 with fail
      generalize hw5 : w4.alloc (.cells #[.int .i64 w', .int .i64 h', .slice (some ⟨g, 0, none⟩) (w' * h') (w' * h')] 27) = w5 at hb5 ⊢
      have k5 := (w21.bl hb5).all3
      clear hw5 hb3 hb4 hg k1
      go_wp2_with fail
      refine (bounds_any W H A an ac bs _ (HA.out.bl hb5)).mono ?_
      rintro e w6 ⟨X, Y, BW, BH, err, rfl, _, h2, hb6⟩
      obtain ⟨is, hbi, hie⟩ := h2 Hp.out
      have herr : err = 10 := by
        obtain ⟨W, H, rfl, rfl, rfl, _⟩ := page_nat Hp.out
        simp only [Int.toNat_natCast] at hbi
        rw [hie, inkB_is hbi, Hi.out]; rfl
      clear h2 hbi hie
      subst herr
      have hb7 : Bl w2 (w6.alloc (.cells #[.int .i64 X, .int .i64 Y, .int .i64 BW, .int .i64 BH] 29)) := (hb5.trans hb6).alloc _
      go_upto_region 8 with fail
      generalize hw7 : w6.alloc (.cells #[.int .i64 X, .int .i64 Y, .int .i64 BW, .int .i64 BH] 29) = w7 at hb7 ⊢
      have k7 := (w22.bl hb7).all3
      clear hw7 hb6 k5
      go_wp2_with fail
      refine bodyPost_ret (v := .tuple #[.agg #[.int .i64 0, .int .i64 0, .slice none 0 0], .int .i64 10]) (by simp [results, Try.results14, go_sem, k7]) rfl ⟨rfl, ?_⟩
      exact ((((w2b.trans hb7).setCell (by simp) _).setCell (by simp) _).setCell (by simp) _)
    · have e1 : centreErr W H an w' h' (inkB bs an) = sizeErr w' h' := by unfold centreErr; simp only [firstNZ, if_pos hp, if_neg hs]
      have hq2 : (sizeErr w' h' != 0) = true := by simp [hs]
      rw [e1]
      have Hs := Lib.hid hs
      clear he e1 hs
      go_enter Try.func14, Try.ntmps14
      go_wp2_with fail
      refine (checkBits_any _ _ _ _ _ _).mono ?_
      rintro e w3 ⟨rfl, hb3⟩
      go_wp2_with fail
      refine (blank_bad w' h' _ Hs.out).mono ?_
      rintro e w4 ⟨rfl, hb4⟩
      have hb5 : Bl w2 (w4.alloc (.cells #[.int .i64 0, .int .i64 0, .slice none 0 0] 27)) := (hb3.trans hb4).alloc _
      go_upto_region 5 with fail
      generalize hw5 : w4.alloc (.cells #[.int .i64 0, .int .i64 0, .slice none 0 0] 27) = w5 at hb5 ⊢
      have k5 := (w22.bl hb5).all3
      clear hw5 hb3 hb4 k1
      go_wp2_with fail
      refine bodyPost_ret (v := .tuple #[.agg #[.int .i64 0, .int .i64 0, .slice none 0 0], .int .i64 (sizeErr w' h')]) (by simp [results, Try.results14, go_sem, k5]) rfl ⟨rfl, ?_⟩
      exact ((((w2b.trans hb5).setCell (by simp) _).setCell (by simp) _).setCell (by simp) _)
  · have e1 : centreErr W H an w' h' (inkB bs an) = pageErr W H an := by unfold centreErr; simp only [firstNZ, if_neg hp]
    have hq : (pageErr W H an != 0) = true := by simp [hp]
    rw [e1]
    clear he e1 hp
    go_enter Try.func14, Try.ntmps14
    go_wp2_with fail
    refine (checkBits_any _ _ _ _ _ _).mono ?_
    rintro e w3 ⟨rfl, hb3⟩
    have k5 := (w22.bl hb3).all3
    go_wp2_with fail
    refine bodyPost_ret (v := .tuple #[.agg #[.int .i64 0, .int .i64 0, .slice none 0 0], .int .i64 (pageErr W H an)]) (by simp [results, Try.results14, go_sem, k5]) rfl ⟨rfl, ?_⟩
    exact ((((w2b.trans hb3).setCell (by simp) _).setCell (by simp) _).setCell (by simp) _)

end Go.Proofs.Ytecfjdladcmhjaa
