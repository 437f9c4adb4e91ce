/- skew.find and bedref2.best, with a score that a function value tells. -/
import Derived.Test.YtecfjdladcmhjaaDoorFindLaw
import Derived.Deep.Light
namespace Go.Proofs.YtecfjdladcmhjaaDoor
open Go.RowKit

def negF (S : Int → Int) (k : Int) : Int := S (-k)
theorem upd_take {F : Int → Int} {b g k : Int} (h : g < F k) : updB F (b, g) k = (k, F k) := by unfold updB; rw [if_pos h]
theorem upd_keep {F : Int → Int} {b g k : Int} (h : ¬ g < F k) : updB F (b, g) k = (b, g) := by unfold updB; rw [if_neg h]

set_option maxRecDepth 100000 in
set_option maxHeartbeats 4000000 in
theorem find_ok (W H : Nat) (A : Option Addr) (ac : Nat) (bs : List Bool) (most : Nat) (S : Int → Int) (kf : FuncId) (cap : Array Value) (w : World) (hA : Reads w 1 A (W * H) (bs.map .bool)) (hp : pageErr W H (W * H) = 0) (hm : most ≤ 256)
    (hink : 0 < (spotL bs (W * H)).length) (hent : ∀ args w, (callFunc kf args).run Tryd.prog w = .ok (.enter kf args) w)
    (hS : ∀ wx P c (n : Int), Bl w wx → PtReads wx P W (spotL bs (W * H)) → -256 ≤ n ∧ n ≤ 256 → Calls Tryd.prog kf (#[.slice P (spotL bs (W * H)).length c, .int .i64 n] ++ cap) wx fun e w' => e = .returned (.int .i64 (S n)) ∧ Bl wx w') :
    Calls Tryd.prog 174 #[.agg #[.int .i64 W, .int .i64 H, .slice A (W * H) ac], .int .i64 most, .func (.func kf) #[] cap] w fun e w' => e = .returned (.tuple #[.int .i64 (bestN (negF S) most).1, .int .i64 0]) ∧ Bl w w' := by
  let w2 := (w).alloc (.cells #[.int .i64 W, .int .i64 H, .slice A (W * H) ac] 24)
  have w2b : Bl w w2 := (Bl.refl w).alloc _
  have w21 : Blk w2 (w.heap.size) 24 #[.int .i64 W, .int .i64 H, .slice A (W * H) ac] := by
    have h0 := Blk.new (w) 24 #[.int .i64 W, .int .i64 H, .slice A (W * H) ac]
    exact h0
  have hz := sizeErr_zero (pageErr_zero hp).1
  have u : 1 ≤ W ∧ W ≤ 4000 ∧ H ≤ 4000 := by omega
  have u3 := page_nat hp
  have hbd : W * H ≤ 1048576 := by obtain ⟨W', H', e1, e2, e3, _, _, u3⟩ := u3; omega
  have k1 := w21.all3
  have HA := Lib.hid (hA.bl w2b); have HS := Lib.hid hS
  have hl : ¬ ((spotL bs (W * H)).length = 0) := by omega
  have hl2 : (((spotL bs (W * H)).length : Nat) : Int) ≠ 0 := by omega
  have hl3 : ((((spotL bs (W * H)).length : Nat) : Int) == 0) = false := by simpa using hl
  have hl4 : ((spotL bs (W * H)).length == 0) = false := by simpa using hl
  clear hz u3 hA hS
  go_enter Tryd.func174, Tryd.ntmps174
  go_wp2_with fail
  refine (checkBits_any _ _ _ _ _ _).mono ?_
  rintro e w3 ⟨rfl, hb3⟩
  have k3 := (w21.bl hb3).all3
  clear k1
  go_wp2_with fail
  refine (spots_any W H A ac bs _ (HA.out.bl hb3) u.1 hbd u.2.1 u.2.2).mono ?_
  rintro e w4 ⟨P, c, rfl, hP, hb4⟩
  have hb24 : Bl w w4 := (w2b.trans hb3).trans hb4
  have HP := Lib.hid hP
  have hcall0 := HS.out w4 P c 0 hb24 HP.out (by omega)
  obtain ⟨s0, hs0⟩ : ∃ s, s = S 0 := ⟨_, rfl⟩
  rw [← hs0] at hcall0
  have Hs0 := Lib.hid hs0; have Hcall0 := Lib.hid hcall0
  clear hP k3 hcall0 hs0
  go_wp2_with fail
  refine Hcall0.out.mono ?_
  rintro e w5 ⟨rfl, hb5⟩
  have hb25 : Bl w w5 := hb24.trans hb5
  have HP5 := Lib.hid (HP.out.bl hb5)
  have hstart : bestN (negF S) 0 = (0, s0) := by rw [Hs0.out]; simp [bestN, negF]
  have Hstart := Lib.hid hstart
  clear hstart hp
  go_wp2_with fail
  go_loopw [10, 11, 12] (fun a b u wr => ∃ (m : Nat) (x g : Int), m ≤ most ∧ u = .int .i64 ((m : Int) + 1) ∧ a = .int .i64 x ∧ b = .int .i64 g ∧ Hid (bestN (negF S) m = (x, g)) ∧ Bl w5 wr) (fun _ _ u _ => most + 1 - (intOf u).toNat)
  case atStart => exact ⟨0, 0, s0, Nat.zero_le _, by simp, rfl, rfl, Hstart.out, Bl.refl _⟩
  case round =>
    obtain ⟨m, x, g, hm1, rfl, rfl, rfl, hbest, hbr⟩ := hrel
    by_cases hlt : m < most
    · have d1 : (m : Int) + 1 ≤ (most : Int) := by omega
      have hb' : bestN (negF S) (m + 1) = updB (negF S) (updB (negF S) (x, g) ((m : Int) + 1)) (-((m : Int) + 1)) := by
        show updB (negF S) (updB (negF S) (bestN (negF S) m) ((m : Int) + 1)) (-((m : Int) + 1)) = _
        rw [hbest.out]
      have f1 : negF S ((m : Int) + 1) = S (-((m : Int) + 1)) := rfl
      have f2 : negF S (-((m : Int) + 1)) = S ((m : Int) + 1) := by unfold negF; rw [Int.neg_neg]
      have c1 := fun wx h => HS.out wx P c (-((m : Int) + 1)) (hb25.trans h) (HP5.out.bl h) (by omega)
      have c2 := fun wx h => HS.out wx P c ((m : Int) + 1) (hb25.trans h) (HP5.out.bl h) (by omega)
      obtain ⟨s1, hs1⟩ : ∃ s, s = S (-((m : Int) + 1)) := ⟨_, rfl⟩
      obtain ⟨s2, hs2⟩ : ∃ s, s = S ((m : Int) + 1) := ⟨_, rfl⟩
      rw [← hs1] at f1 c1
      rw [← hs2] at f2 c2
      have C1 := Lib.hid c1; have C2 := Lib.hid c2; have F1 := Lib.hid f1; have F2 := Lib.hid f2; have Hb' := Lib.hid hb'
      have bk := (Blk.new wr 3 #[.int .i64 ((m : Int) + 1), .int .i64 (-((m : Int) + 1))])
      have hb6 : Bl w5 (wr.alloc (.cells #[.int .i64 ((m : Int) + 1), .int .i64 (-((m : Int) + 1))] 3)) := hbr.alloc _
      clear c1 c2 f1 f2 hb' hs1 hs2
      have hways : (g < s1 ∧ s1 < s2 ∧ bestN (negF S) (m + 1) = (-((m : Int) + 1), s2)) ∨ (g < s1 ∧ ¬ s1 < s2 ∧ bestN (negF S) (m + 1) = ((m : Int) + 1, s1)) ∨ (¬ g < s1 ∧ g < s2 ∧ bestN (negF S) (m + 1) = (-((m : Int) + 1), s2)) ∨ (¬ g < s1 ∧ ¬ g < s2 ∧ bestN (negF S) (m + 1) = (x, g)) := by
        by_cases h1 : g < s1
        · by_cases h2 : s1 < s2
          · exact Or.inl ⟨h1, h2, by rw [Hb'.out, upd_take (b := x) (g := g) (k := (m : Int) + 1) (by rw [F1.out]; exact h1), F1.out, upd_take (b := (m : Int) + 1) (g := s1) (k := -((m : Int) + 1)) (by rw [F2.out]; exact h2), F2.out]⟩
          · exact Or.inr (Or.inl ⟨h1, h2, by rw [Hb'.out, upd_take (b := x) (g := g) (k := (m : Int) + 1) (by rw [F1.out]; exact h1), F1.out, upd_keep (b := (m : Int) + 1) (g := s1) (k := -((m : Int) + 1)) (by rw [F2.out]; exact h2)]⟩)
        · by_cases h2 : g < s2
          · exact Or.inr (Or.inr (Or.inl ⟨h1, h2, by rw [Hb'.out, upd_keep (b := x) (g := g) (k := (m : Int) + 1) (by rw [F1.out]; exact h1), upd_take (b := x) (g := g) (k := -((m : Int) + 1)) (by rw [F2.out]; exact h2), F2.out]⟩))
          · exact Or.inr (Or.inr (Or.inr ⟨h1, h2, by rw [Hb'.out, upd_keep (b := x) (g := g) (k := (m : Int) + 1) (by rw [F1.out]; exact h1), upd_keep (b := x) (g := g) (k := -((m : Int) + 1)) (by rw [F2.out]; exact h2)]⟩))
      clear F1 F2 Hb' hbest
      rcases hways with ⟨h1, h2, hfin⟩ | ⟨h1, h2, hfin⟩ | ⟨h1, h2, hfin⟩ | ⟨h1, h2, hfin⟩
      all_goals
        have Hfin := Lib.hid hfin
        clear hfin
        go_wp2_with fail
        refine wp_loop_rounds 3 ?_
        rw [rounds_succ]
        go_wp2_with fail
        refine (C1.out _ hb6).mono ?_
        rintro e w7 ⟨rfl, hb7⟩
        have kk := (bk.bl hb7).all2
        have hb67 := hb6.trans hb7
        go_wp2_with fail
        rw [rounds_succ]
        go_wp2_with fail
        refine (C2.out _ hb67).mono ?_
        rintro e w8 ⟨rfl, hb8⟩
        go_wp2_with fail
        rw [rounds_succ]
        go_wp2_with fail
        exact ⟨⟨m + 1, _, _, hlt, by go_num, rfl, rfl, Hfin.out, hb67.trans hb8⟩, by go_light; simp [intOf]; omega⟩
    · obtain rfl : m = most := by omega
      go_wp2_with fail
      refine bodyPost_ret (v := .tuple #[.int .i64 x, .int .i64 0]) (by simp [results, Tryd.results174, go_sem]) rfl ⟨by rw [hbest.out], hb25.trans hbr⟩

set_option maxRecDepth 100000 in
set_option maxHeartbeats 2000000 in
theorem find_bad (W H : Int) (A : Option Addr) (an ac : Nat) (bs : List Bool) (most : Int) (kf : FuncId) (cap : Array Value) (w : World) (hA : Reads w 1 A an (bs.map .bool)) (he : findErr W H an most (inkB bs an) ≠ 0) :
    Calls Tryd.prog 174 #[.agg #[.int .i64 W, .int .i64 H, .slice A an ac], .int .i64 most, .func (.func kf) #[] cap] w fun e w' => e = .returned (.tuple #[.int .i64 0, .int .i64 (findErr W H an most (inkB bs an))]) ∧ Bl w w' := by
  let w2 := (w).alloc (.cells #[.int .i64 W, .int .i64 H, .slice A an ac] 24)
  have w2b : Bl w w2 := (Bl.refl w).alloc _
  have w21 : Blk w2 (w.heap.size) 24 #[.int .i64 W, .int .i64 H, .slice A an ac] := by
    have h0 := Blk.new (w) 24 #[.int .i64 W, .int .i64 H, .slice A an ac]
    exact h0
  have k1 := w21.all3
  by_cases hp : pageErr W H an = 0
  · rcases (show most < 0 ∨ (¬ most < 0 ∧ 256 < most) ∨ (0 ≤ most ∧ most ≤ 256) by omega) with h | ⟨h, h'⟩ | h
    iterate 2
      · have e : findErr W H an most (inkB bs an) = 3 := by
          unfold findErr; rw [hp, inB_false.2 (by omega)]; simp [firstNZ, whenI]
        rw [e]
        clear e he hA
        go_enter Tryd.func174, Tryd.ntmps174
        go_wp2_with fail
        refine (checkBits_any _ _ _ _ _ _).mono ?_
        rintro e w3 ⟨rfl, hb3⟩
        go_wp2_with fail
        refine bodyPost_ret (v := .tuple #[.int .i64 0, .int .i64 3]) (by simp [results, Tryd.results174, go_sem]) rfl ⟨rfl, w2b.trans hb3⟩
    · have hi : inkB bs an = false := by
        cases hi : inkB bs an
        · rfl
        · rw [hi] at he; exact absurd (by unfold findErr; rw [hp, inB_true.2 h]; rfl) he
      have e : findErr W H an most (inkB bs an) = 10 := by
        unfold findErr; rw [hp, inB_true.2 h, hi]; rfl
      rw [e]
      have hl : (spotL bs an).length = 0 := by
        unfold inkB at hi
        rw [decide_eq_false_iff_not] at hi
        omega
      have hz := sizeErr_zero (pageErr_zero hp).1
      have Hp := Lib.hid hp
      obtain ⟨W, H, rfl, rfl, rfl, u1, u2, u3⟩ := page_nat hp
      have hW1 : 1 ≤ W := by omega
      have HA := Lib.hid (hA.bl w2b)
      clear e he hA hi hz
      go_enter Tryd.func174, Tryd.ntmps174
      go_wp2_with fail
      refine (checkBits_any _ _ _ _ _ _).mono ?_
      rintro e w3 ⟨rfl, hb3⟩
      have k3 := (w21.bl hb3).all3
      clear k1
      go_wp2_with fail
      have cs := spots_any W H A ac bs _ (HA.out.bl hb3) hW1 u3 u1 u2
      rw [hl] at cs
      refine cs.mono ?_
      rintro e w4 ⟨P, c, rfl, hP, hb4⟩
      clear cs
      go_wp2_with fail
      refine bodyPost_ret (v := .tuple #[.int .i64 0, .int .i64 10]) (by simp [results, Tryd.results174, go_sem]) rfl ⟨rfl, (w2b.trans hb3).trans hb4⟩
  · have e : findErr W H an most (inkB bs an) = pageErr W H an := by unfold findErr; simp only [firstNZ, if_neg hp]
    have hq : (pageErr W H an != 0) = true := by simp [hp]
    rw [e]
    clear e he hp hA
    go_enter Tryd.func174, Tryd.ntmps174
    go_wp2_with fail
    refine (checkBits_any _ _ _ _ _ _).mono ?_
    rintro e w3 ⟨rfl, hb3⟩
    go_wp2_with fail
    refine bodyPost_ret (v := .tuple #[.int .i64 0, .int .i64 (pageErr W H an)]) (by simp [results, Tryd.results174, go_sem]) rfl ⟨rfl, w2b.trans hb3⟩

end Go.Proofs.YtecfjdladcmhjaaDoor
