/- Box, Find, FindSlant, Straight, Upright; FindOf, FindSlantOf. -/
import Derived.Test.YtkhajhcfplicpaaDoorS15
import Derived.Deep.Light

namespace Go.Proofs.YtkhajhcfplicpaaDoor
open Go.RowKit

def negF (S : Int → Int) (k : Int) : Int := S (-k)
theorem upd_take {F : Int → Int} {b g k : Int} (h : g < F k) : updB F (b, g) k = (k, F k) := by unfold updB; rw [if_pos h]
theorem upd_keep {F : Int → Int} {b g k : Int} (h : ¬ g < F k) : updB F (b, g) k = (b, g) := by unfold updB; rw [if_neg h]

set_option maxRecDepth 100000 in
set_option maxHeartbeats 4000000 in
theorem find_ok (W H : Nat) (A : Option Addr) (ac : Nat) (bs : List Bool) (most : Nat) (S : Int → Int) (kf : FuncId) (cap : Array Value) (w : World) (hA : Reads w 1 A (W * H) (bs.map .bool)) (hp : pageErr W H (W * H) = 0) (hm : most ≤ 256)
    (hink : 0 < (spotL bs (W * H)).length) (hent : ∀ args w, (callFunc kf args).run Tryd.prog w = .ok (.enter kf args) w)
    (hS : ∀ wx P c (n : Int), Bl w wx → PtReads wx P W (spotL bs (W * H)) → -256 ≤ n ∧ n ≤ 256 → Calls Tryd.prog kf (#[.slice P (spotL bs (W * H)).length c, .int .i64 n] ++ cap) wx fun e w' => e = .returned (.int .i64 (S n)) ∧ Bl wx w') :
    Calls Tryd.prog 227 #[.agg #[.int .i64 W, .int .i64 H, .slice A (W * H) ac], .int .i64 most, .func (.func kf) #[] cap] w fun e w' => e = .returned (.tuple #[.int .i64 (bestN (negF S) most).1, .int .i64 0]) ∧ Bl w w' := by
  let w2 := (w).alloc (.cells #[.int .i64 W, .int .i64 H, .slice A (W * H) ac] 24)
  have w2b : Bl w w2 := (Bl.refl w).alloc _
  have w21 : Blk w2 (w.heap.size) 24 #[.int .i64 W, .int .i64 H, .slice A (W * H) ac] := by
    have h0 := Blk.new (w) 24 #[.int .i64 W, .int .i64 H, .slice A (W * H) ac]
    exact h0
  have hz := sizeErr_zero (pageErr_zero hp).1
  have u : 1 ≤ W ∧ W ≤ 4000 ∧ H ≤ 4000 := by omega
  have u3 := page_nat hp
  have hbd : W * H ≤ 1048576 := by obtain ⟨W', H', e1, e2, e3, _, _, u3⟩ := u3; omega
  have k1 := w21.all3
  have HA := Lib.hid (hA.bl w2b); have HS := Lib.hid hS
  have hl : ¬ ((spotL bs (W * H)).length = 0) := by omega
  have hl2 : (((spotL bs (W * H)).length : Nat) : Int) ≠ 0 := by omega
  have hl3 : ((((spotL bs (W * H)).length : Nat) : Int) == 0) = false := by simpa using hl
  have hl4 : ((spotL bs (W * H)).length == 0) = false := by simpa using hl
  clear hz u3 hA hS
  go_enter Tryd.func227, Tryd.ntmps227
  go_wp2_with fail
  refine (checkBits_any _ _ _ _ _ _).mono ?_
  rintro e w3 ⟨rfl, hb3⟩
  have k3 := (w21.bl hb3).all3
  clear k1
  go_wp2_with fail
  refine (spots_any W H A ac bs _ (HA.out.bl hb3) u.1 hbd u.2.1 u.2.2).mono ?_
  rintro e w4 ⟨P, c, rfl, hP, hb4⟩
  have hb24 : Bl w w4 := (w2b.trans hb3).trans hb4
  have HP := Lib.hid hP
  have hcall0 := HS.out w4 P c 0 hb24 HP.out (by omega)
  obtain ⟨s0, hs0⟩ : ∃ s, s = S 0 := ⟨_, rfl⟩
  rw [← hs0] at hcall0
  have Hs0 := Lib.hid hs0; have Hcall0 := Lib.hid hcall0
  clear hP k3 hcall0 hs0
  go_wp2_with fail
  refine Hcall0.out.mono ?_
  rintro e w5 ⟨rfl, hb5⟩
  have hb25 : Bl w w5 := hb24.trans hb5
  have HP5 := Lib.hid (HP.out.bl hb5)
  have hstart : bestN (negF S) 0 = (0, s0) := by rw [Hs0.out]; simp [bestN, negF]
  have Hstart := Lib.hid hstart
  clear hstart hp
  go_wp2_with fail
  go_loopw [10, 11, 12] (fun a b u wr => ∃ (m : Nat) (x g : Int), m ≤ most ∧ u = .int .i64 ((m : Int) + 1) ∧ a = .int .i64 x ∧ b = .int .i64 g ∧ Hid (bestN (negF S) m = (x, g)) ∧ Bl w5 wr) (fun _ _ u _ => most + 1 - (intOf u).toNat)
  case atStart => exact ⟨0, 0, s0, Nat.zero_le _, by simp, rfl, rfl, Hstart.out, Bl.refl _⟩
  case round =>
    obtain ⟨m, x, g, hm1, rfl, rfl, rfl, hbest, hbr⟩ := hrel
    by_cases hlt : m < most
    · have d1 : (m : Int) + 1 ≤ (most : Int) := by omega
      have hb' : bestN (negF S) (m + 1) = updB (negF S) (updB (negF S) (x, g) ((m : Int) + 1)) (-((m : Int) + 1)) := by
        show updB (negF S) (updB (negF S) (bestN (negF S) m) ((m : Int) + 1)) (-((m : Int) + 1)) = _
        rw [hbest.out]
      have f1 : negF S ((m : Int) + 1) = S (-((m : Int) + 1)) := rfl
      have f2 : negF S (-((m : Int) + 1)) = S ((m : Int) + 1) := by unfold negF; rw [Int.neg_neg]
      have c1 := fun wx h => HS.out wx P c (-((m : Int) + 1)) (hb25.trans h) (HP5.out.bl h) (by omega)
      have c2 := fun wx h => HS.out wx P c ((m : Int) + 1) (hb25.trans h) (HP5.out.bl h) (by omega)
      obtain ⟨s1, hs1⟩ : ∃ s, s = S (-((m : Int) + 1)) := ⟨_, rfl⟩
      obtain ⟨s2, hs2⟩ : ∃ s, s = S ((m : Int) + 1) := ⟨_, rfl⟩
      rw [← hs1] at f1 c1
      rw [← hs2] at f2 c2
      have C1 := Lib.hid c1; have C2 := Lib.hid c2; have F1 := Lib.hid f1; have F2 := Lib.hid f2; have Hb' := Lib.hid hb'
      have bk := (Blk.new wr 3 #[.int .i64 ((m : Int) + 1), .int .i64 (-((m : Int) + 1))])
      have hb6 : Bl w5 (wr.alloc (.cells #[.int .i64 ((m : Int) + 1), .int .i64 (-((m : Int) + 1))] 3)) := hbr.alloc _
      clear c1 c2 f1 f2 hb' hs1 hs2
      have hways : (g < s1 ∧ s1 < s2 ∧ bestN (negF S) (m + 1) = (-((m : Int) + 1), s2)) ∨ (g < s1 ∧ ¬ s1 < s2 ∧ bestN (negF S) (m + 1) = ((m : Int) + 1, s1)) ∨ (¬ g < s1 ∧ g < s2 ∧ bestN (negF S) (m + 1) = (-((m : Int) + 1), s2)) ∨ (¬ g < s1 ∧ ¬ g < s2 ∧ bestN (negF S) (m + 1) = (x, g)) := by
        by_cases h1 : g < s1
        · by_cases h2 : s1 < s2
          · exact Or.inl ⟨h1, h2, by rw [Hb'.out, upd_take (b := x) (g := g) (k := (m : Int) + 1) (by rw [F1.out]; exact h1), F1.out, upd_take (b := (m : Int) + 1) (g := s1) (k := -((m : Int) + 1)) (by rw [F2.out]; exact h2), F2.out]⟩
          · exact Or.inr (Or.inl ⟨h1, h2, by rw [Hb'.out, upd_take (b := x) (g := g) (k := (m : Int) + 1) (by rw [F1.out]; exact h1), F1.out, upd_keep (b := (m : Int) + 1) (g := s1) (k := -((m : Int) + 1)) (by rw [F2.out]; exact h2)]⟩)
        · by_cases h2 : g < s2
          · exact Or.inr (Or.inr (Or.inl ⟨h1, h2, by rw [Hb'.out, upd_keep (b := x) (g := g) (k := (m : Int) + 1) (by rw [F1.out]; exact h1), upd_take (b := x) (g := g) (k := -((m : Int) + 1)) (by rw [F2.out]; exact h2), F2.out]⟩))
          · exact Or.inr (Or.inr (Or.inr ⟨h1, h2, by rw [Hb'.out, upd_keep (b := x) (g := g) (k := (m : Int) + 1) (by rw [F1.out]; exact h1), upd_keep (b := x) (g := g) (k := -((m : Int) + 1)) (by rw [F2.out]; exact h2)]⟩))
      clear F1 F2 Hb' hbest
      rcases hways with ⟨h1, h2, hfin⟩ | ⟨h1, h2, hfin⟩ | ⟨h1, h2, hfin⟩ | ⟨h1, h2, hfin⟩
      all_goals
        have Hfin := Lib.hid hfin
        clear hfin
        go_wp2_with fail
        refine wp_loop_rounds 3 ?_
        rw [rounds_succ]
        go_wp2_with fail
        refine (C1.out _ hb6).mono ?_
        rintro e w7 ⟨rfl, hb7⟩
        have kk := (bk.bl hb7).all2
        have hb67 := hb6.trans hb7
        go_wp2_with fail
        rw [rounds_succ]
        go_wp2_with fail
        refine (C2.out _ hb67).mono ?_
        rintro e w8 ⟨rfl, hb8⟩
        go_wp2_with fail
        rw [rounds_succ]
        go_wp2_with fail
        exact ⟨⟨m + 1, _, _, hlt, by go_num, rfl, rfl, Hfin.out, hb67.trans hb8⟩, by go_light; simp [intOf]; omega⟩
    · obtain rfl : m = most := by omega
      go_wp2_with fail
      refine bodyPost_ret (v := .tuple #[.int .i64 x, .int .i64 0]) (by simp [results, Tryd.results227, go_sem]) rfl ⟨by rw [hbest.out], hb25.trans hbr⟩

set_option maxRecDepth 100000 in
set_option maxHeartbeats 2000000 in
theorem find_bad (W H : Int) (A : Option Addr) (an ac : Nat) (bs : List Bool) (most : Int) (kf : FuncId) (cap : Array Value) (w : World) (hA : Reads w 1 A an (bs.map .bool)) (he : findErr W H an most (inkB bs an) ≠ 0) :
    Calls Tryd.prog 227 #[.agg #[.int .i64 W, .int .i64 H, .slice A an ac], .int .i64 most, .func (.func kf) #[] cap] w fun e w' => e = .returned (.tuple #[.int .i64 0, .int .i64 (findErr W H an most (inkB bs an))]) ∧ Bl w w' := by
  let w2 := (w).alloc (.cells #[.int .i64 W, .int .i64 H, .slice A an ac] 24)
  have w2b : Bl w w2 := (Bl.refl w).alloc _
  have w21 : Blk w2 (w.heap.size) 24 #[.int .i64 W, .int .i64 H, .slice A an ac] := by
    have h0 := Blk.new (w) 24 #[.int .i64 W, .int .i64 H, .slice A an ac]
    exact h0
  have k1 := w21.all3
  by_cases hp : pageErr W H an = 0
  · rcases (show most < 0 ∨ (¬ most < 0 ∧ 256 < most) ∨ (0 ≤ most ∧ most ≤ 256) by omega) with h | ⟨h, h'⟩ | h
    iterate 2
      · have e : findErr W H an most (inkB bs an) = 3 := by
          unfold findErr; rw [hp, inB_false.2 (by omega)]; simp [firstNZ, whenI]
        rw [e]
        clear e he hA
        go_enter Tryd.func227, Tryd.ntmps227
        go_wp2_with fail
        refine (checkBits_any _ _ _ _ _ _).mono ?_
        rintro e w3 ⟨rfl, hb3⟩
        go_wp2_with fail
        refine bodyPost_ret (v := .tuple #[.int .i64 0, .int .i64 3]) (by simp [results, Tryd.results227, go_sem]) rfl ⟨rfl, w2b.trans hb3⟩
    · have hi : inkB bs an = false := by
        cases hi : inkB bs an
        · rfl
        · rw [hi] at he; exact absurd (by unfold findErr; rw [hp, inB_true.2 h]; rfl) he
      have e : findErr W H an most (inkB bs an) = 10 := by
        unfold findErr; rw [hp, inB_true.2 h, hi]; rfl
      rw [e]
      have hl : (spotL bs an).length = 0 := by
        unfold inkB at hi
        rw [decide_eq_false_iff_not] at hi
        omega
      have hz := sizeErr_zero (pageErr_zero hp).1
      have Hp := Lib.hid hp
      obtain ⟨W, H, rfl, rfl, rfl, u1, u2, u3⟩ := page_nat hp
      have hW1 : 1 ≤ W := by omega
      have HA := Lib.hid (hA.bl w2b)
      clear e he hA hi hz
      go_enter Tryd.func227, Tryd.ntmps227
      go_wp2_with fail
      refine (checkBits_any _ _ _ _ _ _).mono ?_
      rintro e w3 ⟨rfl, hb3⟩
      have k3 := (w21.bl hb3).all3
      clear k1
      go_wp2_with fail
      have cs := spots_any W H A ac bs _ (HA.out.bl hb3) hW1 u3 u1 u2
      rw [hl] at cs
      refine cs.mono ?_
      rintro e w4 ⟨P, c, rfl, hP, hb4⟩
      clear cs
      go_wp2_with fail
      refine bodyPost_ret (v := .tuple #[.int .i64 0, .int .i64 10]) (by simp [results, Tryd.results227, go_sem]) rfl ⟨rfl, (w2b.trans hb3).trans hb4⟩
  · have e : findErr W H an most (inkB bs an) = pageErr W H an := by unfold findErr; simp only [firstNZ, if_neg hp]
    have hq : (pageErr W H an != 0) = true := by simp [hp]
    rw [e]
    clear e he hp hA
    go_enter Tryd.func227, Tryd.ntmps227
    go_wp2_with fail
    refine (checkBits_any _ _ _ _ _ _).mono ?_
    rintro e w3 ⟨rfl, hb3⟩
    go_wp2_with fail
    refine bodyPost_ret (v := .tuple #[.int .i64 0, .int .i64 (pageErr W H an)]) (by simp [results, Tryd.results227, go_sem]) rfl ⟨rfl, w2b.trans hb3⟩

end Go.Proofs.YtkhajhcfplicpaaDoor


/-! The plain law of leaning back: what leans and has margins is got back; of full rows that lean the best number says how much they lean. -/
namespace Go.Proofs.YtkhajhcfplicpaaDoor
open Go.RowKit

theorem shiftI_neg (n : Int) : shiftI (-n) = -shiftI n := by
  unfold shiftI roundI
  split <;> split <;> omega
theorem leanI_neg (W : Nat) (k : Int) (x : Nat) : leanI W (-k) x = -leanI W k x := by
  unfold leanI
  rw [Int.neg_mul, shiftI_neg]
theorem leanI_small {W : Nat} {n : Int} {x : Nat} (hW : W ≤ 200) (hn : -64 ≤ n ∧ n ≤ 64) (hx : x < W) : -8 ≤ leanI W n x ∧ leanI W n x ≤ 8 := by
  unfold leanI
  obtain ⟨d, hd⟩ : ∃ d, d = (x : Int) - ((W : Int) - 1) / 2 := ⟨_, rfl⟩
  rw [← hd]
  have h1 : -100 ≤ d ∧ d ≤ 100 := by omega
  have h2 : (n * d).natAbs ≤ 64 * 100 := by
    rw [Int.natAbs_mul]
    exact Nat.mul_le_mul (by omega) (by omega)
  generalize n * d = z at h2
  unfold shiftI roundI
  split <;> omega
theorem leanI_mid {W : Nat} (hW : 1 ≤ W) (n : Int) : leanI W n ((W - 1) / 2) = 0 := by
  have e : (((W - 1) / 2 : Nat) : Int) - ((W : Int) - 1) / 2 = 0 := by omega
  unfold leanI
  rw [e, Int.mul_zero]
  rfl
theorem atI_grid (W H : Nat) (f : Nat → Nat → Bool) (x : Nat) (z : Int) (hx : x < W) : atI (grid W H f) W H (x : Int) z = (decide (0 ≤ z ∧ z < H) && f x z.toNat) := by
  by_cases h : 0 ≤ z ∧ z < H
  · obtain ⟨y, rfl⟩ := Int.eq_ofNat_of_zero_le h.1
    have hy : y < H := by omega
    rw [atI_in _ _ _ _ _ hx hy]
    have e : decide (0 ≤ (y : Int) ∧ (y : Int) < H) = true := decide_eq_true h
    rw [e, Bool.true_and]
    unfold pix
    rw [List.getD_eq_getElem?_getD, grid_get W H f x y hx hy]
    rfl
  · have e : decide (0 ≤ z ∧ z < (H : Int)) = false := decide_eq_false h
    have e2 : decide (0 ≤ (x : Int) ∧ (x : Int) < W ∧ 0 ≤ z ∧ z < H) = false := decide_eq_false fun h2 => h ⟨h2.2.2.1, h2.2.2.2⟩
    unfold atI
    rw [e, e2]
    rfl
/-- What leans is got back, if there are margins. -/
theorem unlean {W H : Nat} {f : Nat → Nat → Bool} {n k : Int} (hs : ∀ x, x < W → -8 ≤ leanI W n x ∧ leanI W n x ≤ 8) (hk : ∀ x, x < W → leanI W k x = leanI W n x) (hf : ∀ x y, x < W → y < H → f x y = true → 8 ≤ y ∧ y + 8 < H) :
    grid W H (leanF (grid W H (leanF (grid W H f) W H n)) W H (-k)) = grid W H f := by
  apply grid_congr
  intro x y hx hy
  unfold leanF
  rw [leanI_neg, hk x hx, atI_grid W H _ x _ hx]
  have hb := hs x hx
  by_cases h : 0 ≤ (y : Int) - -leanI W n x ∧ (y : Int) - -leanI W n x < H
  · rw [decide_eq_true h, Bool.true_and, atI_grid W H f x _ hx]
    have e : (((y : Int) - -leanI W n x).toNat : Int) - leanI W n x = (y : Int) := by omega
    rw [e]
    have e2 : decide (0 ≤ (y : Int) ∧ (y : Int) < H) = true := decide_eq_true (by omega)
    rw [e2, Bool.true_and, Int.toNat_natCast]
  · rw [decide_eq_false h, Bool.false_and]
    cases hfx : f x y
    · rfl
    · have := hf x y hx hy hfx
      omega

/-! ### the best number -/
theorem bestN_snd (F : Int → Int) : ∀ m : Nat, (bestN F m).2 = F (bestN F m).1
  | 0 => rfl
  | m + 1 => by
    have h := bestN_snd F m
    have up : ∀ (p : Int × Int) (k : Int), p.2 = F p.1 → (updB F p k).2 = F (updB F p k).1 := fun p k hp => by
      unfold updB
      split
      · rfl
      · exact hp
    unfold bestN
    exact up _ _ (up _ _ h)
theorem bestN_max (F : Int → Int) : ∀ (m : Nat) (k : Int), -(m : Int) ≤ k → k ≤ (m : Int) → F k ≤ (bestN F m).2
  | 0, k, h1, h2 => by
    have : k = 0 := by omega
    subst this
    exact Int.le_refl _
  | m + 1, k, h1, h2 => by
    have keep : ∀ (p : Int × Int) (j : Int), p.2 ≤ (updB F p j).2 := fun p j => by
      unfold updB
      split
      · rename_i h; exact Int.le_of_lt h
      · exact Int.le_refl _
    have take : ∀ (p : Int × Int) (j : Int), F j ≤ (updB F p j).2 := fun p j => by
      unfold updB
      split
      · exact Int.le_refl _
      · rename_i h; omega
    unfold bestN
    by_cases e1 : k = (m : Int) + 1
    · subst e1
      exact Int.le_trans (take _ _) (keep _ _)
    · by_cases e2 : k = -((m : Int) + 1)
      · subst e2
        exact take _ _
      · exact Int.le_trans (bestN_max F m k (by omega) (by omega)) (Int.le_trans (keep _ _) (keep _ _))

/-! ### sums of squares -/
theorem sq_bd (g : Nat → Nat) (W : Nat) : ∀ N, (∀ k, k < N → g k ≤ W) → sqN (fun k => (g k : Int)) N ≤ ((W * sumN g N : Nat) : Int)
  | 0, _ => by simp [sqN, sumN]
  | N + 1, h => by
    have ih := sq_bd g W N (fun k hk => h k (by omega))
    have h1 : g N * g N ≤ W * g N := Nat.mul_le_mul_right _ (h N (by omega))
    have e : ((g N : Int)) * (g N : Int) = ((g N * g N : Nat) : Int) := by simp
    simp only [sqN, sumN]
    rw [e, Nat.mul_add]
    omega
theorem sq_ends (g : Nat → Nat) (W : Nat) : ∀ N, (∀ k, k < N → g k ≤ W) → ((W * sumN g N : Nat) : Int) ≤ sqN (fun k => (g k : Int)) N → ∀ k, k < N → g k = 0 ∨ g k = W
  | 0, _, _, k, hk => absurd hk (Nat.not_lt_zero _)
  | N + 1, h, hq, k, hk => by
    have ih := sq_bd g W N (fun k hk => h k (by omega))
    have h1 : g N * g N ≤ W * g N := Nat.mul_le_mul_right _ (h N (by omega))
    have e : ((g N : Int)) * (g N : Int) = ((g N * g N : Nat) : Int) := by simp
    simp only [sqN, sumN] at hq
    rw [e, Nat.mul_add] at hq
    rcases Nat.lt_succ_iff_lt_or_eq.1 hk with hk | rfl
    · exact sq_ends g W N (fun k hk => h k (by omega)) (by omega) k hk
    · rcases Nat.eq_zero_or_pos (g k) with h0 | h0
      · exact Or.inl h0
      · have h2 : W * g k ≤ g k * g k := by omega
        have h3 := Nat.le_of_mul_le_mul_right h2 h0
        exact Or.inr (Nat.le_antisymm (h k (by omega)) h3)
theorem sq_of_ends (g : Nat → Nat) (W : Nat) : ∀ N, (∀ k, k < N → g k = 0 ∨ g k = W) → sqN (fun k => (g k : Int)) N = ((W * sumN g N : Nat) : Int)
  | 0, _ => by simp [sqN, sumN]
  | N + 1, h => by
    have ih := sq_of_ends g W N (fun k hk => h k (by omega))
    have h1 : g N * g N = W * g N := by
      rcases h N (by omega) with e | e <;> rw [e]
      simp
    have e : ((g N : Int)) * (g N : Int) = ((g N * g N : Nat) : Int) := by simp
    simp only [sqN, sumN]
    rw [ih, e, Nat.mul_add, h1]
    omega
theorem sumN_le1 (f : Nat → Bool) : ∀ N, sumN (fun x => b1 (f x)) N ≤ N
  | 0 => Nat.le_refl _
  | N + 1 => by
    have := sumN_le1 f N
    have h2 : b1 (f N) ≤ 1 := by unfold b1; split <;> omega
    simp only [sumN]; omega
theorem sumN_none {f : Nat → Bool} : ∀ {N}, sumN (fun x => b1 (f x)) N = 0 → ∀ x, x < N → f x = false
  | 0, _, x, hx => absurd hx (Nat.not_lt_zero _)
  | N + 1, h, x, hx => by
    simp only [sumN] at h
    rcases Nat.lt_succ_iff_lt_or_eq.1 hx with hx | rfl
    · exact sumN_none (by omega) x hx
    · cases e : f x
      · rfl
      · rw [e] at h; simp [b1] at h
theorem sumN_every {f : Nat → Bool} : ∀ {N}, sumN (fun x => b1 (f x)) N = N → ∀ x, x < N → f x = true
  | 0, _, x, hx => absurd hx (Nat.not_lt_zero _)
  | N + 1, h, x, hx => by
    simp only [sumN] at h
    have h1 := sumN_le1 f N
    have h2 : b1 (f N) ≤ 1 := by unfold b1; split <;> omega
    rcases Nat.lt_succ_iff_lt_or_eq.1 hx with hx | rfl
    · exact sumN_every (by omega) x hx
    · cases e : f x
      · have h3 : b1 (f x) = 0 := by rw [e]; rfl
        omega
      · rfl
theorem sumN_const (c N : Nat) : sumN (fun _ => c) N = N * c := by
  induction N with
  | zero => simp [sumN]
  | succ N ih => simp only [sumN, ih]; rw [Nat.succ_mul]
/-- Of a row of tests on one place at most one is met. -/
theorem sumN_one (A : Nat → Bool) (z : Int) : ∀ N, sumN (fun y => b1 (A y && decide ((y : Int) = z))) N = b1 (decide (0 ≤ z ∧ z < (N : Int)) && A z.toNat)
  | 0 => by
    have : decide (0 ≤ z ∧ z < ((0 : Nat) : Int)) = false := decide_eq_false (by omega)
    rw [this]; rfl
  | N + 1 => by
    simp only [sumN]
    rw [sumN_one A z N]
    by_cases e : (N : Int) = z
    · subst e
      have h1 : decide (0 ≤ (N : Int) ∧ (N : Int) < (N : Int)) = false := decide_eq_false (by omega)
      have h2 : decide (0 ≤ (N : Int) ∧ (N : Int) < ((N + 1 : Nat) : Int)) = true := decide_eq_true (by omega)
      rw [h1, h2]
      simp [b1]
    · have h1 : decide (0 ≤ z ∧ z < (N : Int)) = decide (0 ≤ z ∧ z < ((N + 1 : Nat) : Int)) := decide_eq_decide.2 (by omega)
      rw [h1, decide_eq_false e]
      simp [b1]

/-! ### the profile of full rows that lean -/
def fullI (full : Nat → Bool) (H : Nat) (z : Int) : Bool := decide (0 ≤ z ∧ z < (H : Int)) && full z.toNat
def rowsG (full : Nat → Bool) (W H : Nat) : List Bool := grid W H fun _ y => full y
theorem prof_total (bs : List Bool) (W H : Nat) (k : Int) (N : Nat) : sumN (profN bs W H k) N ≤ sumN (fun i => b1 (bs.getD i false)) (W * H) := by
  unfold profN
  rw [sumN_swap]
  apply sumN_mono
  intro i
  unfold profK
  have e : ∀ r : Nat, decide (profAt W H k i = (r : Int)) = decide ((r : Int) = profAt W H k i) := fun r => decide_eq_decide.2 ⟨fun h => h.symm, fun h => h.symm⟩
  simp only [e]
  rw [sumN_one (fun _ => bs.getD i false)]
  cases decide (0 ≤ profAt W H k i ∧ profAt W H k i < (N : Int)) <;> cases bs.getD i false <;> simp [b1]
theorem prof_all {bs : List Bool} {W H : Nat} {k : Int} {N : Nat} (h : ∀ i, i < W * H → bs.getD i false = true → 0 ≤ profAt W H k i ∧ profAt W H k i < (N : Int)) : sumN (profN bs W H k) N = sumN (fun i => b1 (bs.getD i false)) (W * H) := by
  unfold profN
  rw [sumN_swap]
  apply sumN_congr
  intro i hi
  unfold profK
  have e : ∀ r : Nat, decide (profAt W H k i = (r : Int)) = decide ((r : Int) = profAt W H k i) := fun r => decide_eq_decide.2 ⟨fun h => h.symm, fun h => h.symm⟩
  simp only [e]
  rw [sumN_one (fun _ => bs.getD i false)]
  cases hb : bs.getD i false
  · simp [b1]
  · rw [decide_eq_true (h i hi hb)]
    rfl

section
variable {full : Nat → Bool} {W H : Nat} {n : Int}
theorem lean_pix {x y : Nat} (hx : x < W) (hy : y < H) : (grid W H (leanF (rowsG full W H) W H n)).getD (y * W + x) false = fullI full H ((y : Int) - leanI W n x) := by
  rw [List.getD_eq_getElem?_getD, grid_get W H _ x y hx hy]
  show leanF (rowsG full W H) W H n x y = _
  unfold leanF rowsG
  rw [atI_grid W H _ x _ hx]
  rfl
theorem fullI_bd (hm : ∀ y, y < H → full y = true → 8 ≤ y ∧ y + 8 < H) {z : Int} (h : fullI full H z = true) : 8 ≤ z ∧ z + 8 < H := by
  unfold fullI at h
  simp only [Bool.and_eq_true, decide_eq_true_eq] at h
  have := hm z.toNat (by omega) h.2
  omega
theorem prof_cols (hm : ∀ y, y < H → full y = true → 8 ≤ y ∧ y + 8 < H) (hs : ∀ x, x < W → -8 ≤ leanI W n x ∧ leanI W n x ≤ 8) (k : Int) (r : Nat) :
    profN (grid W H (leanF (rowsG full W H) W H n)) W H (-k) r = sumN (fun x => b1 (fullI full H ((r : Int) - ((H / 2 : Nat) : Int) - (leanI W n x - leanI W k x)))) W := by
  unfold profN
  rw [← sumN_cols (fun i => b1 ((grid W H (leanF (rowsG full W H) W H n)).getD i false && profK W H (-k) r i))]
  apply sumN_congr
  intro x hx
  have e1 : sumN (fun y => b1 ((grid W H (leanF (rowsG full W H) W H n)).getD (y * W + x) false && profK W H (-k) r (y * W + x))) H
      = sumN (fun y => b1 ((fun y : Nat => fullI full H ((y : Int) - leanI W n x)) y && decide ((y : Int) = (r : Int) - ((H / 2 : Nat) : Int) + leanI W k x))) H := by
    apply sumN_congr
    intro y hy
    rw [lean_pix hx hy]
    congr 2
    unfold profK profAt
    rw [(at_parts y hx).1, (at_parts y hx).2, leanI_neg]
    exact decide_eq_decide.2 (by omega)
  rw [e1, sumN_one]
  congr 1
  have hb := hs x hx
  obtain ⟨z, hz⟩ : ∃ z, z = (r : Int) - ((H / 2 : Nat) : Int) + leanI W k x := ⟨_, rfl⟩
  have e2 : (r : Int) - ((H / 2 : Nat) : Int) - (leanI W n x - leanI W k x) = z - leanI W n x := by omega
  rw [e2, ← hz]
  by_cases h : 0 ≤ z ∧ z < (H : Int)
  · rw [decide_eq_true h, Bool.true_and]
    have e3 : ((z.toNat : Nat) : Int) = z := by omega
    rw [e3]
  · rw [decide_eq_false h, Bool.false_and]
    cases hf : fullI full H (z - leanI W n x)
    · rfl
    · have := fullI_bd hm hf
      omega

theorem first_full : ∀ {N : Nat}, (∃ y, y < N ∧ full y = true) → ∃ y, y < N ∧ full y = true ∧ ∀ j, j < y → full j = false
  | 0, ⟨y, h, _⟩ => absurd h (Nat.not_lt_zero _)
  | N + 1, ⟨y, h, hf⟩ => by
    by_cases he : ∃ y, y < N ∧ full y = true
    · obtain ⟨z, h1, h2, h3⟩ := first_full he
      exact ⟨z, by omega, h2, h3⟩
    · have hy : y = N := by
        rcases Nat.lt_succ_iff_lt_or_eq.1 h with h | h
        · exact absurd ⟨y, h, hf⟩ he
        · exact h
      subst hy
      refine ⟨y, h, hf, fun j hj => ?_⟩
      cases hj2 : full j
      · rfl
      · exact absurd ⟨j, hj, hj2⟩ he
theorem last_full : ∀ {N : Nat}, (∃ y, y < N ∧ full y = true) → ∃ y, y < N ∧ full y = true ∧ ∀ j, y < j → j < N → full j = false
  | 0, ⟨y, h, _⟩ => absurd h (Nat.not_lt_zero _)
  | N + 1, ⟨y, h, hf⟩ => by
    cases hN : full N
    · have hy : y < N := by
        rcases Nat.lt_succ_iff_lt_or_eq.1 h with h | h
        · exact h
        · subst h; rw [hf] at hN; cases hN
      obtain ⟨z, h1, h2, h3⟩ := last_full ⟨y, hy, hf⟩
      refine ⟨z, by omega, h2, fun j h4 h5 => ?_⟩
      rcases Nat.lt_succ_iff_lt_or_eq.1 h5 with h | rfl
      · exact h3 j h4 h
      · exact hN
    · exact ⟨N, by omega, hN, fun j h4 h5 => by omega⟩

/-- The best number leans as the page was leaned. -/
theorem best_leans (hW : 1 ≤ W ∧ W ≤ 200) (hn : -64 ≤ n ∧ n ≤ 64) (hm : ∀ y, y < H → full y = true → 8 ≤ y ∧ y + 8 < H) (hex : ∃ y, y < H ∧ full y = true) (m : Nat) (hmn : -(m : Int) ≤ n ∧ n ≤ (m : Int)) (x : Nat) (hx : x < W) :
    leanI W (bestN (negF (scoreI (grid W H (leanF (rowsG full W H) W H n)) W H)) m).1 x = leanI W n x := by
  have hs := fun x (hx : x < W) => leanI_small hW.2 hn hx
  obtain ⟨q, hq⟩ : ∃ q, q = grid W H (leanF (rowsG full W H) W H n) := ⟨_, rfl⟩
  have hpc := fun k r => prof_cols (full := full) (H := H) hm hs k r
  have hlp := fun (x y : Nat) (hx : x < W) (hy : y < H) => lean_pix (full := full) (n := n) hx hy
  rw [← hq] at hpc hlp ⊢
  obtain ⟨T, hT⟩ : ∃ T, T = sumN (fun i => b1 (q.getD i false)) (W * H) := ⟨_, rfl⟩
  obtain ⟨k, hk⟩ : ∃ k, k = (bestN (negF (scoreI q W H)) m).1 := ⟨_, rfl⟩
  have hbest := bestN_max (negF (scoreI q W H)) m n hmn.1 hmn.2
  rw [bestN_snd, ← hk] at hbest
  rw [← hk]
  have le : ∀ j r, profN q W H (-j) r ≤ W := fun j r => by rw [hpc]; exact sumN_le1 _ _
  -- at n: every row is full or empty
  have en : negF (scoreI q W H) n = ((W * T : Nat) : Int) := by
    unfold negF scoreI profI
    rw [sq_of_ends (profN q W H (-n)) W (2 * H) (fun r _ => by
      rw [hpc]
      have e : ∀ x, (r : Int) - ((H / 2 : Nat) : Int) - (leanI W n x - leanI W n x) = (r : Int) - ((H / 2 : Nat) : Int) := fun x => by omega
      simp only [e]
      rw [sumN_const]
      cases fullI full H ((r : Int) - ((H / 2 : Nat) : Int)) <;> simp [b1])]
    rw [prof_all, ← hT]
    intro i hi hb
    obtain ⟨h1, h2, h3⟩ := place_parts hi
    have hb2 := hb
    rw [← h3, hlp _ _ h1 h2] at hb2
    have := fullI_bd hm hb2
    unfold profAt
    rw [leanI_neg]
    omega
  -- at k: no more than that
  have uk : negF (scoreI q W H) k ≤ ((W * sumN (profN q W H (-k)) (2 * H) : Nat) : Int) := sq_bd (profN q W H (-k)) W (2 * H) (fun r _ => le k r)
  have hle : W * sumN (profN q W H (-k)) (2 * H) ≤ W * T := Nat.mul_le_mul_left _ (by rw [hT]; exact prof_total q W H (-k) (2 * H))
  have ends := sq_ends (profN q W H (-k)) W (2 * H) (fun r _ => le k r) (by
    have : negF (scoreI q W H) k = sqN (fun r => ((profN q W H (-k) r : Nat) : Int)) (2 * H) := rfl
    omega)
  have hmid : (W - 1) / 2 < W := by omega
  have same : ∀ r, r < 2 * H → fullI full H ((r : Int) - ((H / 2 : Nat) : Int) - (leanI W n x - leanI W k x)) = fullI full H ((r : Int) - ((H / 2 : Nat) : Int)) := fun r hr => by
    have e0 : (r : Int) - ((H / 2 : Nat) : Int) - (leanI W n ((W - 1) / 2) - leanI W k ((W - 1) / 2)) = (r : Int) - ((H / 2 : Nat) : Int) := by rw [leanI_mid hW.1, leanI_mid hW.1]; omega
    rcases ends r hr with h | h
    · rw [hpc] at h
      have h1 := sumN_none h x hx
      have h2 := sumN_none h _ hmid
      rw [e0] at h2
      rw [h1, h2]
    · rw [hpc] at h
      have h1 := sumN_every h x hx
      have h2 := sumN_every h _ hmid
      rw [e0] at h2
      rw [h1, h2]
  obtain ⟨d, hd⟩ : ∃ d, d = leanI W n x - leanI W k x := ⟨_, rfl⟩
  rw [← hd] at same
  have fullAt : ∀ y : Nat, y < H → fullI full H (y : Int) = full y := fun y hy => by
    unfold fullI
    rw [decide_eq_true (by omega), Bool.true_and, Int.toNat_natCast]
  have at_ : ∀ y : Nat, y < H → full y = true → 0 ≤ (y : Int) - d ∧ (y : Int) - d < H ∧ full ((y : Int) - d).toNat = true := fun y hy hf => by
    have h := same (H / 2 + y) (by omega)
    have e1 : ((H / 2 + y : Nat) : Int) - ((H / 2 : Nat) : Int) = (y : Int) := by omega
    rw [e1, fullAt y hy, hf] at h
    unfold fullI at h
    simp only [Bool.and_eq_true, decide_eq_true_eq] at h
    exact ⟨h.1.1, h.1.2, h.2⟩
  obtain ⟨y0, a1, a2, a3⟩ := first_full hex
  obtain ⟨y1, b1', b2, b3⟩ := last_full hex
  have p0 := at_ y0 a1 a2
  have p1 := at_ y1 b1' b2
  have d0 : ¬ 0 < d := fun h => by
    have := a3 ((y0 : Int) - d).toNat (by omega)
    rw [p0.2.2] at this
    cases this
  have d1 : ¬ d < 0 := fun h => by
    have := b3 ((y1 : Int) - d).toNat (by omega) (by omega)
    rw [p1.2.2] at this
    cases this
  omega
end

end Go.Proofs.YtkhajhcfplicpaaDoor


/-! Box, Find, FindSlant, Straight, Upright; FindOf, FindSlantOf. -/
namespace Go.Proofs.YtkhajhcfplicpaaDoor
open Go.RowKit

/-! ### Box -/
/-! ### Find and FindSlant -/

set_option maxRecDepth 100000 in
set_option maxHeartbeats 1000000 in
theorem find_any (W H : Int) (A : Option Addr) (an ac : Nat) (bs : List Bool) (most : Int) (w : World) (hA : Reads w 1 A an (bs.map .bool)) :
    Calls Tryd.prog 139 #[.agg #[.int .i64 W, .int .i64 H, .slice A an ac], .int .i64 most] w fun e w' => ∃ n : Int, e = .returned (.tuple #[.int .i64 n, .int .i64 (findErr W H an most (inkB bs an))]) ∧ (findErr W H an most (inkB bs an) ≠ 0 → n = 0) ∧
      (findErr W H an most (inkB bs an) = 0 → n = (bestN (negF (scoreI bs W.toNat H.toNat)) most.toNat).1) ∧ Bl w w' := by
  let w2 := (w).alloc (.cells #[.int .i64 W, .int .i64 H, .slice A an ac] 24)
  have w2b : Bl w w2 := (Bl.refl w).alloc _
  have w21 : Blk w2 (w.heap.size) 24 #[.int .i64 W, .int .i64 H, .slice A an ac] := by
    have h0 := Blk.new (w) 24 #[.int .i64 W, .int .i64 H, .slice A an ac]
    exact h0
  have k1 := w21.all3
  have HA := Lib.hid (hA.bl w2b)
  clear hA
  have hcall : Calls Tryd.prog 227 #[.agg #[.int .i64 W, .int .i64 H, .slice A an ac], .int .i64 most, .func (.func 228) #[] #[.pointer (some ⟨w.heap.size, 0, none⟩)]] w2 fun e w' =>
      ∃ n : Int, e = .returned (.tuple #[.int .i64 n, .int .i64 (findErr W H an most (inkB bs an))]) ∧ (findErr W H an most (inkB bs an) ≠ 0 → n = 0) ∧ (findErr W H an most (inkB bs an) = 0 → n = (bestN (negF (scoreI bs W.toNat H.toNat)) most.toNat).1) ∧ Bl w2 w' := by
    by_cases he : findErr W H an most (inkB bs an) = 0
    · obtain ⟨hp, hm, hi⟩ := findErr_zero he
      have hz := sizeErr_zero (pageErr_zero hp).1
      obtain ⟨W, H, rfl, rfl, rfl, u1, u2, u3⟩ := page_nat hp
      obtain ⟨most, rfl⟩ := Int.eq_ofNat_of_zero_le hm.1
      have hW : 1 ≤ W ∧ W ≤ 4000 := by omega
      have hH : 1 ≤ H ∧ H ≤ 4000 := by omega
      have hink : 0 < (spotL bs (W * H)).length := by unfold inkB at hi; exact of_decide_eq_true hi
      refine (find_ok W H A ac bs most (scoreI bs W H) 228 #[.pointer (some ⟨w.heap.size, 0, none⟩)] w2 HA.out hp (by omega) hink (enters Tryd.func228 (by kernel_rfl) rfl)
        (fun wx P c n hb hP hn => find1_any _ W H A _ ac bs P c n wx (w21.bl hb) hP hW hH u3 hn)).mono ?_
      rintro e w' ⟨rfl, hb⟩
      exact ⟨_, by rw [he], fun h => absurd he h, fun _ => by simp, hb⟩
    · refine (find_bad W H A an ac bs most _ _ w2 HA.out he).mono ?_
      rintro e w' ⟨rfl, hb⟩
      exact ⟨0, rfl, fun _ => rfl, fun h => absurd h he, hb⟩
  have Hcall := Lib.hid hcall
  clear hcall
  go_enter Tryd.func139, Tryd.ntmps139
  go_wp2_with fail
  refine Hcall.out.mono ?_
  rintro e w3 ⟨n, rfl, h1, h2, hb3⟩
  have H1 := Lib.hid h1; have H2 := Lib.hid h2
  clear h1 h2
  go_wp2_with fail
  refine bodyPost_ret (v := .tuple #[.int .i64 n, .int .i64 (findErr W H an most (inkB bs an))]) (by simp [results, Tryd.results139, go_sem]) rfl ⟨n, rfl, H1.out, H2.out, w2b.trans hb3⟩
/-! ### Straight -/
set_option maxRecDepth 100000 in
set_option maxHeartbeats 2000000 in
theorem straight_any (W H : Int) (A : Option Addr) (an ac : Nat) (bs : List Bool) (most : Int) (w : World) (hA : Reads w 1 A an (bs.map .bool)) :
    Calls Tryd.prog 41 #[.agg #[.int .i64 W, .int .i64 H, .slice A an ac], .int .i64 most] w fun e w' => ∃ (a b : Int) (R : Option Addr) (m d : Nat) (n : Int), e = .returned (.tuple #[.agg #[.int .i64 a, .int .i64 b, .slice R m d], .int .i64 n, .int .i64 (findErr W H an most (inkB bs an))]) ∧
      (findErr W H an most (inkB bs an) ≠ 0 → n = 0) ∧ (findErr W H an most (inkB bs an) = 0 → n = (bestN (negF (scoreI bs W.toNat H.toNat)) most.toNat).1) ∧
      Res w.heap.size w' (findErr W H an most (inkB bs an)) W.toNat H.toNat ((grid W.toNat H.toNat (leanF bs W.toNat H.toNat (-n))).map .bool) a b R m d ∧ Bl w w' := by
  let w2 := ((w).alloc (.cells #[.int .i64 W, .int .i64 H, .slice A an ac] 24)).alloc (.cells #[.int .i64 0, .int .i64 0, .slice none 0 0] 24)
  have w2b : Bl w w2 := ((Bl.refl w).alloc _).alloc _
  have w21 : Blk w2 (w.heap.size) 24 #[.int .i64 W, .int .i64 H, .slice A an ac] := by
    have h0 := Blk.new (w) 24 #[.int .i64 W, .int .i64 H, .slice A an ac]
    exact (h0.alloc _)
  have w22 : Blk w2 (w.heap.size + 1) 24 #[.int .i64 0, .int .i64 0, .slice none 0 0] := by
    have h0 := Blk.new ((w).alloc (.cells #[.int .i64 W, .int .i64 H, .slice A an ac] 24)) 24 #[.int .i64 0, .int .i64 0, .slice none 0 0]
    simp only [World.size_alloc] at h0
    exact h0
  have k1 := w21.all3
  have HA := Lib.hid (hA.bl w2b)
  clear hA
  obtain ⟨E, hE⟩ : ∃ E, E = findErr W H an most (inkB bs an) := ⟨_, rfl⟩
  have c1 := fun w h => find_any W H A an ac bs most w h
  rw [← hE] at c1 ⊢
  have C1 := Lib.hid c1; have HE := Lib.hid hE
  clear c1 hE
  go_enter Tryd.func41, Tryd.ntmps41
  go_wp2_with fail
  refine (C1.out _ HA.out).mono ?_
  rintro e w3 ⟨n, rfl, h1, h2, hb3⟩
  have k3 := (w21.bl hb3).all3
  have k2 := (w22.bl hb3).all3
  have H1 := Lib.hid h1; have H2 := Lib.hid h2
  clear h1 h2 k1
  by_cases he : E = 0
  · have hq : (E != 0) = false := by simp [he]
    obtain ⟨hp, hm, hi⟩ := findErr_zero (HE.out.symm.trans he)
    have hbd := bestN_bd (negF (scoreI bs W.toNat H.toNat)) most.toNat
    rw [← H2.out he] at hbd
    have hnb : -256 ≤ -n ∧ -n ≤ 256 := by omega
    have hle0 : leanErr W H an (-n) = 0 := by unfold leanErr; rw [hp, inB_true.2 hnb]; rfl
    have c2 := fun w h => lean_any W H A an ac bs (-n) w h
    rw [hle0] at c2
    have hnn : -1000 ≤ n ∧ n ≤ 1000 := by omega
    have C2 := Lib.hid c2; have He := Lib.hid he
    clear c2 hp hm hi hle0 hbd hnb he
    go_wp2_with fail
    refine (C2.out _ (HA.out.bl hb3)).mono ?_
    rintro e w4 ⟨a, b, R, m, d, rfl, hres, hb4⟩
    have b5 := Blk.new w4 24 #[.int .i64 a, .int .i64 b, .slice R m d]
    have hb5 : Bl w3 (w4.alloc (.cells #[.int .i64 a, .int .i64 b, .slice R m d] 24)) := hb4.alloc _
    have hsz : w.heap.size + 2 ≤ w3.heap.size := by have := (w22.bl hb3).lt; omega
    have hres5 := hres.bl ((Bl.refl w4).alloc (.cells #[.int .i64 a, .int .i64 b, .slice R m d] 24))
    have HR := Lib.hid hres5
    clear hres hres5 k3 k2
    go_upto_region 5 with fail
    generalize hw5 : w4.alloc (.cells #[.int .i64 a, .int .i64 b, .slice R m d] 24) = w5 at b5 hb5 HR ⊢
    have k5 := b5.all3
    have k6 := (w22.bl (hb3.trans hb5)).all3
    clear hw5 hb4
    go_wp2_with fail
    have he := He.out
    refine bodyPost_ret (v := .tuple #[.agg #[.int .i64 a, .int .i64 b, .slice R m d], .int .i64 n, .int .i64 0]) (by simp [results, Tryd.results41, go_sem, k6]) rfl ⟨a, b, R, m, d, n, by rw [he], H1.out, H2.out, ?_, ?_⟩
    · have hR2 : ∀ ad, R = some ad → w.heap.size + 2 ≤ ad.block := fun ad h => by
        obtain ⟨A', c', e', _, hn⟩ := HR.out.1 rfl
        simp only [Value.agg.injEq, List.cons.injEq, Value.slice.injEq, and_true, Array.mk.injEq] at e'
        have := hn ad (by rw [← e'.2.2.1]; exact h)
        omega
      obtain ⟨A', c', e', hr, hn⟩ := HR.out.1 rfl
      have e2 := e'
      simp only [Value.agg.injEq, List.cons.injEq, Value.slice.injEq, and_true, Array.mk.injEq] at e2
      obtain ⟨e21, e22, e23, e24, e25⟩ := e2
      refine ⟨fun _ => ⟨A', c', e', ?_, fun ad h => by have := hn ad h; omega⟩, fun h => absurd he h⟩
      have hn2 : ∀ ad, A' = some ad → w.heap.size + 2 ≤ ad.block := fun ad h => by have := hn ad h; omega
      exact ((hr.store hn2 (by simp) _).store hn2 (by simp) _).store hn2 (by simp) _
    · exact (((((w2b.trans hb3).trans hb5).setCell (by simp) _).setCell (by simp) _).setCell (by simp) _)
  · have hq : (E != 0) = true := by simp [he]
    obtain rfl := H1.out he
    have He := Lib.hid he
    clear he
    go_wp2_with fail
    refine bodyPost_ret (v := .tuple #[.agg #[.int .i64 0, .int .i64 0, .slice none 0 0], .int .i64 0, .int .i64 E]) (by simp [results, Tryd.results41, go_sem, k2]) rfl ⟨_, _, _, _, _, 0, rfl, fun _ => rfl, H2.out, Res.zero _ _ _ _ _ He.out, ?_⟩
    exact ((((w2b.trans hb3).setCell (by simp) _).setCell (by simp) _).setCell (by simp) _)

/-! ### Upright -/
def turnI (bs : List Bool) (W H : Nat) : Int := if sqN (rowI bs W) H < sqN (colI bs W H) W then 1 else 0
def upErr (W H : Int) (k : Nat) (ink : Bool) : Int := firstNZ [pageErr W H k, whenI (!ink) 10]
end Go.Proofs.YtkhajhcfplicpaaDoor
