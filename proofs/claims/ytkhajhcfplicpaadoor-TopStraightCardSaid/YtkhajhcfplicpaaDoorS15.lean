/- The scores: Find$1, FindSlant$1, FindOf$1, FindSlantOf$1. -/
import Derived.Test.YtkhajhcfplicpaaDoorS14
import Derived.Test.YtkhajhcfplicpaaDoorS1
import Derived.Test.YtkhajhcfplicpaaDoorS4
import Derived.Laws.EntriesVeiled

namespace Go.Proofs.YtkhajhcfplicpaaDoor
open Go.RowKit

def leanF (bs : List Bool) (W H : Nat) (n : Int) (x y : Nat) : Bool := atI bs W H (x : Int) ((y : Int) - leanI W n x)
def slantF (bs : List Bool) (W H : Nat) (n : Int) (x y : Nat) : Bool := atI bs W H ((x : Int) - slantI H n y) (y : Int)

set_option maxRecDepth 100000 in
set_option maxHeartbeats 1000000 in
theorem lean1_any (p g W H : Nat) (n : Int) (x y : Nat) (w : World) (hp : Blk w p 83 #[.slice (some ⟨g, 0, none⟩) W W]) (hg : Blk w g 3 (tabI W (leanI W n))) (hW : W ≤ 4000) (hH : H ≤ 4000) (hn : -256 ≤ n ∧ n ≤ 256) (hx : x < W) (hy : y < H) :
    Calls Tryd.prog 138 #[.int .i64 x, .int .i64 y, .pointer (some ⟨p, 0, none⟩)] w fun e w' => e = .returned (.tuple #[.int .i64 (x : Int), .int .i64 ((y : Int) + leanI W n x)]) ∧ Bl w w' := by
  have kp := hp.all1
  have kg := hg.tabAt hx
  have hb := leanI_bd hW hn hx
  obtain ⟨s, hs⟩ : ∃ s, s = leanI W n x := ⟨_, rfl⟩
  rw [← hs] at kg hb ⊢
  clear hs
  go_enter Tryd.func138, Tryd.ntmps138
  go_wp2_with fail
  refine wp_region_flow [(true, 0), (true, 1), (true, 2), (true, 3), (true, 4), (true, 5), (true, 6), (true, 7), (true, 8)] (fun _ => false) (by kernel_rfl) (by kernel_rfl) (by kernel_rfl) (by kernel_rfl) ?_
  iterate 2
    apply Flow.mv _ rfl
    · intro K' hK'
      simp only [Act.put, Act.eval, List.setIfInBounds_toArray, List.set_cons_zero, List.set_cons_succ, arr_getD, List.getD_cons_zero, List.getD_cons_succ]
      exact hK'
  iterate 1
    apply Flow.calm2 _ _ rfl rfl
    · intro w' hb' K' hK'
      obtain ⟨hc', hf'⟩ := hb'.rule
      go_simp
      try go_ints
      exact hK'
    · intro K' hK'
      simp only [Act.put, List.setIfInBounds_toArray, List.set_cons_zero, List.set_cons_succ]
      exact hK'
  iterate 1
    apply Flow.mv _ rfl
    · intro K' hK'
      simp only [Act.put, Act.eval, List.setIfInBounds_toArray, List.set_cons_zero, List.set_cons_succ, arr_getD, List.getD_cons_zero]
      exact hK'
  iterate 1
    apply Flow.calm2 _ _ rfl rfl
    · intro w' hb' K' hK'
      obtain ⟨hc', hf'⟩ := hb'.rule
      go_simp
      try go_ints
      exact hK'
    · intro K' hK'
      simp only [Act.put, List.setIfInBounds_toArray, List.set_cons_zero, List.set_cons_succ]
      exact hK'
  iterate 1
    apply Flow.calm2 _ _ rfl rfl
    · intro w' hb' K' hK'
      obtain ⟨hc', hf'⟩ := hb'.rule
      go_simp
      try go_ints
      exact hK'
    · intro K' hK'
      simp only [Act.put, List.setIfInBounds_toArray, List.set_cons_zero, List.set_cons_succ]
      exact hK'
  iterate 1
    apply Flow.calm2 _ _ rfl rfl
    · intro w' hb' K' hK'
      obtain ⟨hc', hf'⟩ := hb'.rule
      go_simp
      try go_ints
      exact hK'
    · intro K' hK'
      simp only [Act.put, List.setIfInBounds_toArray, List.set_cons_zero, List.set_cons_succ]
      exact hK'
  iterate 2
    apply Flow.asg _ rfl
    · intro K' hK'
      simp only [Act.put, Act.eval, List.setIfInBounds_toArray, List.set_cons_zero, List.set_cons_succ, arr_getD, List.getD_cons_zero, List.getD_cons_succ]
      exact hK'
  refine Flow.done ?_
  go_wp2_with fail
  refine bodyPost_ret (v := .tuple #[.int .i64 (x : Int), .int .i64 ((y : Int) + s)]) (by simp [results, Tryd.results138, go_sem]) rfl ⟨rfl, by first | exact Bl.refl _ | exact (Bl.refl _).drew⟩
theorem lean_cells (bs : List Bool) (W H : Nat) (n : Int) : ((List.range (W * H)).map (hitTo bs W (fun x y => ((x : Int), (y : Int) + leanI W n x)) (W * H))) = grid W H (leanF bs W H n) :=
  List.map_congr_left fun k hk => by
    have hk := List.mem_range.1 hk
    rw [hit_lean bs W H (leanI W n) k hk]
    rfl
set_option maxRecDepth 100000 in
set_option maxHeartbeats 4000000 in
theorem lean_any (W H : Int) (A : Option Addr) (an ac : Nat) (bs : List Bool) (n : Int) (w : World) (hA : Reads w 1 A an (bs.map .bool)) :
    Calls Tryd.prog 40 #[.agg #[.int .i64 W, .int .i64 H, .slice A an ac], .int .i64 n] w fun e w' => ∃ a b R m d, e = .returned (.tuple #[.agg #[.int .i64 a, .int .i64 b, .slice R m d], .int .i64 (leanErr W H an n)]) ∧
      Res w.heap.size w' (leanErr W H an n) W.toNat H.toNat ((grid W.toNat H.toNat (leanF bs W.toNat H.toNat n)).map .bool) a b R m d ∧ Bl w w' := by
  let w2 := ((w).alloc (.cells #[.int .i64 W, .int .i64 H, .slice A an ac] 24)).alloc (.cells #[.int .i64 0, .int .i64 0, .slice none 0 0] 24)
  have w2b : Bl w w2 := ((Bl.refl w).alloc _).alloc _
  have w21 : Blk w2 (w.heap.size) 24 #[.int .i64 W, .int .i64 H, .slice A an ac] := by
    have h0 := Blk.new (w) 24 #[.int .i64 W, .int .i64 H, .slice A an ac]
    exact (h0.alloc _)
  have w22 : Blk w2 (w.heap.size + 1) 24 #[.int .i64 0, .int .i64 0, .slice none 0 0] := by
    have h0 := Blk.new ((w).alloc (.cells #[.int .i64 W, .int .i64 H, .slice A an ac] 24)) 24 #[.int .i64 0, .int .i64 0, .slice none 0 0]
    simp only [World.size_alloc] at h0
    exact h0
  by_cases he : leanErr W H an n = 0
  · obtain ⟨hp, hn⟩ := leanErr_zero he
    obtain ⟨W, H, rfl, rfl, rfl, u1, u2, u3⟩ := page_nat hp
    have hz := sizeErr_zero (pageErr_zero hp).1
    have hW : 1 ≤ W ∧ W ≤ 4000 := by omega
    have hH : 1 ≤ H ∧ H ≤ 4000 := by omega
    rw [Int.toNat_natCast, Int.toNat_natCast]
    clear hz hp
    go_enter Tryd.func40, Tryd.ntmps40
    go_wp2_with fail
    refine (check_any _ _ _ _ _ _ _).mono ?_
    rintro e w3 ⟨rfl, hb3⟩
    rw [he]
    have He := Lib.hid he
    clear he
    have k1 := (w21.bl hb3).all3
    go_wp2_with fail
    refine (leans_any W n _ hW.2 hW.1 hn).mono ?_
    rintro e w4 ⟨g, rfl, hg, hbg, hb4⟩
    have hb5 : Bl w2 (w4.alloc (.cells #[.slice (some ⟨g, 0, none⟩) W W] 83)) := (hb3.trans hb4).alloc _
    have b5 := Blk.new w4 83 #[.slice (some ⟨g, 0, none⟩) W W]
    have hbg5 := hbg.bl ((Bl.refl w4).alloc (.cells #[.slice (some ⟨g, 0, none⟩) W W] 83))
    have k1 := (w21.bl hb5).all3
    have hcall := moved_any W H A ac bs (fun x y => ((x : Int), (y : Int) + leanI W n x)) 138 #[.pointer (some ⟨w4.heap.size, 0, none⟩)] (w4.alloc (.cells #[.slice (some ⟨g, 0, none⟩) W W] 83)) ((hA.bl w2b).bl hb5) hW hH.2 u3
      (enters Tryd.func138 (by kernel_rfl) rfl) (fun wx x y hb hx hy => lean1_any _ g W H n x y wx (b5.bl hb) (hbg5.bl hb) hW.2 hH.2 hn hx hy)
      (fun x y hx hy => ⟨by simp only []; omega, by have := leanI_bd (W := W) (n := n) hW.2 hn hx; simp only []; omega⟩)
    have Hcall := Lib.hid hcall
    clear hcall hA b5 hbg5 hbg
    go_wp2_with fail
    refine Hcall.out.mono ?_
    rintro e w6 ⟨g6, rfl, hg6, hbg6, hb6⟩
    have k2 := (w22.bl (hb5.trans hb6)).all3
    have hle6 := w2b.trans (hb5.trans hb6)
    have hsz : w.heap.size + 2 ≤ g6 := by
      have h1 := (w22.bl hb5).lt
      simp at h1 hg6
      omega
    have hR := hbg6.tabReadsB
    rw [lean_cells] at hR
    have HR := Lib.hid hR
    clear hR hbg6 hg6
    go_wp2_with fail
    have hN : ∀ ad, some (⟨g6, 0, none⟩ : Addr) = some ad → w.heap.size + 2 ≤ ad.block := fun ad h => by injection h with h; subst h; exact hsz
    refine bodyPost_ret (v := .tuple #[.agg #[.int .i64 W, .int .i64 H, .slice (some ⟨g6, 0, none⟩) (W * H) (W * H)], .int .i64 0]) (by simp [results, Tryd.results40, go_sem, k2]) rfl ⟨_, _, _, _, _, by rw [He.out], Res.page He.out ?_ (fun ad h => by have := hN ad h; omega), ?_⟩
    · exact ((HR.out.store hN (by simp) _).store hN (by simp) _).store hN (by simp) _
    · exact (((hle6.setCell (by simp) _).setCell (by simp) _).setCell (by simp) _)
  · have hq : (leanErr W H an n != 0) = true := by simp [he]
    have He := Lib.hid he
    clear he
    go_enter Tryd.func40, Tryd.ntmps40
    go_wp2_with fail
    refine (check_any _ _ _ _ _ _ _).mono ?_
    rintro e w3 ⟨rfl, hb3⟩
    have k2 := (w22.bl hb3).all3
    go_wp2_with fail
    refine bodyPost_ret (v := .tuple #[.agg #[.int .i64 0, .int .i64 0, .slice none 0 0], .int .i64 (leanErr W H an n)]) (by simp [results, Tryd.results40, go_sem, k2]) rfl ⟨_, _, _, _, _, rfl, Res.zero _ _ _ _ _ He.out, ?_⟩
    exact ((((w2b.trans hb3).setCell (by simp) _).setCell (by simp) _).setCell (by simp) _)

theorem slant_cells (bs : List Bool) (W H : Nat) (n : Int) : ((List.range (W * H)).map (hitTo bs W (fun x y => ((x : Int) + slantI H n y, (y : Int))) (W * H))) = grid W H (slantF bs W H n) :=
  List.map_congr_left fun k hk => by
    have hk := List.mem_range.1 hk
    rw [hit_slant bs W H (slantI H n) k hk]
    rfl
end Go.Proofs.YtkhajhcfplicpaaDoor


/-! bedref2.LeanOf and SlantOf. -/
namespace Go.Proofs.YtkhajhcfplicpaaDoor
open Go.RowKit

end Go.Proofs.YtkhajhcfplicpaaDoor


/-! bedref2.ProfileOf and Square. -/
namespace Go.Proofs.YtkhajhcfplicpaaDoor
open Go.RowKit

theorem profC_le (bs : List Bool) (W H : Nat) (n : Int) (x y k : Nat) : profC bs W H n x y k ≤ x * H + y := by
  have h1 := sumN_le (f := fun x' => sumN (fun y' => b1 (bs.getD (y' * W + x') false && profK W H n k (y' * W + x'))) H) (c := H) (fun x' => by
    have := sumN_le (f := fun y' => b1 (bs.getD (y' * W + x') false && profK W H n k (y' * W + x'))) (c := 1) (fun i => by unfold b1; split <;> omega) H
    simpa using this) x
  have h2 := sumN_le (f := fun y' => b1 (bs.getD (y' * W + x) false && profK W H n k (y' * W + x))) (c := 1) (fun i => by unfold b1; split <;> omega) y
  unfold profC
  omega
theorem profC_here {bs : List Bool} {W H : Nat} {n : Int} {x y : Nat} (hx : x < W) (k : Nat) :
    profC bs W H n x (y + 1) k = profC bs W H n x y k + b1 (pix bs W x y && decide (((H / 2 : Nat) : Int) + (y : Int) + leanI W n x = (k : Int))) := by
  obtain ⟨p1, p2⟩ := at_parts y hx
  rw [profC_step]
  unfold profK profAt
  rw [p1, p2]
  rfl

end Go.Proofs.YtkhajhcfplicpaaDoor


/-! The plain law of finding: the number with the greatest score. -/
namespace Go.Proofs.YtkhajhcfplicpaaDoor
open Go.RowKit

def updB (F : Int → Int) (p : Int × Int) (k : Int) : Int × Int := if p.2 < F k then (k, F k) else p
def bestN (F : Int → Int) : Nat → Int × Int
  | 0 => (0, F 0)
  | m + 1 => updB F (updB F (bestN F m) ((m : Int) + 1)) (-((m : Int) + 1))
theorem updB_bd {F : Int → Int} {p : Int × Int} {k b : Int} (h : -b ≤ p.1 ∧ p.1 ≤ b) (hk : -b ≤ k ∧ k ≤ b) : -b ≤ (updB F p k).1 ∧ (updB F p k).1 ≤ b := by
  unfold updB
  split
  · exact hk
  · exact h
theorem bestN_bd (F : Int → Int) : ∀ m : Nat, -(m : Int) ≤ (bestN F m).1 ∧ (bestN F m).1 ≤ (m : Int)
  | 0 => by simp [bestN]
  | m + 1 => by
    have h := bestN_bd F m
    unfold bestN
    have e : ((m + 1 : Nat) : Int) = (m : Int) + 1 := by simp
    rw [e]
    exact updB_bd (updB_bd (by omega) (by omega)) (by omega)
theorem bestN_congr {F G : Int → Int} {m : Nat} (h : ∀ k : Int, -(m : Int) ≤ k → k ≤ (m : Int) → F k = G k) : bestN F m = bestN G m := by
  induction m with
  | zero => unfold bestN; rw [h 0 (by omega) (by omega)]
  | succ m ih =>
    unfold bestN
    rw [ih (fun k h1 h2 => h k (by omega) (by omega))]
    have e : ∀ p, updB F p ((m : Int) + 1) = updB G p ((m : Int) + 1) := fun p => by unfold updB; rw [h _ (by omega) (by omega)]
    have e2 : ∀ p, updB F p (-((m : Int) + 1)) = updB G p (-((m : Int) + 1)) := fun p => by unfold updB; rw [h _ (by omega) (by omega)]
    rw [e, e2]

/-! ### ink or none -/
theorem spotL_none {bs : List Bool} : ∀ {m : Nat}, (spotL bs m).length = 0 ↔ ∀ i, i < m → bs.getD i false = false
  | 0 => by simp [spotL]
  | m + 1 => by
    simp only [spotL, List.length_append]
    have ih := spotL_none (bs := bs) (m := m)
    constructor
    · intro h i hi
      rcases Nat.lt_or_ge i m with c | c
      · exact ih.1 (by omega) i c
      · obtain rfl : i = m := by omega
        cases hb : bs.getD i false
        · rfl
        · rw [hb] at h; simp at h
    · intro h
      rw [ih.2 (fun i hi => h i (by omega)), h m (by omega)]
      rfl
def inkB (bs : List Bool) (N : Nat) : Bool := decide (0 < (spotL bs N).length)
theorem inkB_is {bs : List Bool} {W H : Nat} {is : Bool} {X Y BW BH : Int} (h : BoundsIs bs W H is X Y BW BH) : is = inkB bs (W * H) := by
  unfold inkB
  rcases h with ⟨rfl, hno, _⟩ | ⟨rfl, l, r, t, b, hl, _⟩
  · symm
    rw [decide_eq_false_iff_not]
    intro hpos
    have : (spotL bs (W * H)).length = 0 := spotL_none.2 fun i hi => by
      obtain ⟨h1, h2, h3⟩ := place_parts hi
      have := hno _ h1
      cases hb : bs.getD i false
      · rfl
      · have := (colN_pos bs W H (i % W)).2 ⟨i / W, h2, by rw [pix_place hi]; exact hb⟩
        omega
    omega
  · symm
    rw [decide_eq_true_iff]
    rcases Nat.eq_zero_or_pos (spotL bs (W * H)).length with e | e
    · have hz := spotL_none.1 e
      obtain ⟨y, hy, hp⟩ := (colN_pos bs W H l).1 hl.1.2.1
      have := hz (l + y * W) (by rw [Nat.add_comm]; exact place_lt hl.1.1 hy)
      unfold pix at hp
      rw [Nat.add_comm] at this
      rw [this] at hp; cases hp
    · exact e
theorem sqN_nonneg {f : Nat → Int} (h : ∀ k, 0 ≤ f k) : ∀ n, 0 ≤ sqN f n
  | 0 => by simp [sqN]
  | n + 1 => by
    have h1 := sqN_nonneg h n
    have h2 : 0 ≤ f n * f n := Int.mul_nonneg (h n) (h n)
    simp only [sqN]; omega
theorem sqN_zero {f : Nat → Int} (h : ∀ k, 0 ≤ f k) : ∀ n, sqN f n = 0 ↔ ∀ k, k < n → f k = 0
  | 0 => by simp [sqN]
  | n + 1 => by
    have h1 := sqN_nonneg h n
    have h2 : 0 ≤ f n * f n := Int.mul_nonneg (h n) (h n)
    have ih := sqN_zero h n
    simp only [sqN]
    constructor
    · intro e k hk
      rcases Nat.lt_or_ge k n with c | c
      · exact ih.1 (by omega) k c
      · obtain rfl : k = n := by omega
        have e2 : f k * f k = 0 := by omega
        rcases Int.mul_eq_zero.1 e2 with h3 | h3 <;> exact h3
    · intro e
      rw [ih.2 (fun k hk => e k (by omega)), e n (by omega)]
      rfl
theorem rows_none (bs : List Bool) (W H : Nat) : sqN (rowI bs W) H = 0 ↔ inkB bs (W * H) = false := by
  rw [sqN_zero (fun k => by unfold rowI; omega)]
  unfold inkB
  rw [decide_eq_false_iff_not]
  constructor
  · intro h hpos
    have : (spotL bs (W * H)).length = 0 := spotL_none.2 fun i hi => by
      obtain ⟨h1, h2, h3⟩ := place_parts hi
      have h4 := h _ h2
      cases hb : bs.getD i false
      · rfl
      · have := (rowN_pos bs W (i / W)).2 ⟨i % W, h1, by rw [pix_place hi]; exact hb⟩
        unfold rowI at h4
        omega
    omega
  · intro h y hy
    have hz := spotL_none.1 (show (spotL bs (W * H)).length = 0 by omega)
    unfold rowI
    rcases Nat.eq_zero_or_pos (rowN bs W y) with e | e
    · rw [e]; rfl
    · obtain ⟨x, hx, hp⟩ := (rowN_pos bs W y).1 e
      have := hz (y * W + x) (place_lt hx hy)
      unfold pix at hp
      rw [this] at hp; cases hp

/-! ### slanted columns -/
def slcK (W H : Nat) (n : Int) (k i : Nat) : Bool := decide (((i % W : Nat) : Int) + slantI H n (i / W) = (k : Int))
theorem slc_eq (bs : List Bool) (W H : Nat) (n : Int) (k : Nat) (hk : k < W) : (((spotL bs (W * H)).countP (slcK W H n k) : Nat)) = colN (grid W H (slantF bs W H n)) W H k := by
  rw [spotL_count]
  unfold colN
  rw [Nat.mul_comm, sumN_flat]
  refine sumN_congr fun y hy => ?_
  rw [pix_grid W H _ k y hk hy]
  have e : ∀ x, x < W → b1 (bs.getD (y * W + x) false && slcK W H n k (y * W + x)) = b1 (pix bs W x y && decide ((x : Int) + slantI H n y = (k : Int))) := fun x hx => by
    unfold slcK
    rw [(at_parts y hx).1, (at_parts y hx).2]; rfl
  rw [sumN_congr e]
  unfold slantF
  generalize slantI H n y = s
  by_cases c : 0 ≤ (k : Int) - s ∧ (k : Int) - s < W
  · obtain ⟨X, hX⟩ := Int.eq_ofNat_of_zero_le c.1
    have hXW : X < W := by omega
    have e2 : ∀ x, x < W → b1 (pix bs W x y && decide ((x : Int) + s = (k : Int))) = if x = X then b1 (pix bs W x y) else 0 := fun x hx => by
      by_cases h : x = X
      · rw [if_pos h, decide_eq_true (by omega), Bool.and_true]
      · rw [if_neg h, decide_eq_false (by omega), Bool.and_false]; rfl
    rw [sumN_congr e2, sumN_pick (fun x => b1 (pix bs W x y)), if_pos hXW]
    have : (k : Int) - s = (X : Int) := by omega
    rw [this, atI_in bs W H X y hXW hy]
  · rw [atI_out bs W H _ _ (by omega)]
    rw [show b1 false = 0 from rfl, ← sumN_zero W]
    refine sumN_congr fun x hx => ?_
    rw [decide_eq_false (by omega), Bool.and_false]; rfl

/-! ### errors -/
def findErr (W H : Int) (k : Nat) (most : Int) (ink : Bool) : Int := firstNZ [pageErr W H k, whenI (!inB most 0 256) 3, whenI (!ink) 10]
theorem findErr_zero {W H : Int} {k : Nat} {most : Int} {ink : Bool} (h : findErr W H k most ink = 0) : pageErr W H k = 0 ∧ (0 ≤ most ∧ most ≤ 256) ∧ ink = true := by
  unfold findErr at h
  by_cases h1 : pageErr W H k = 0
  · cases h2 : inB most 0 256
    · rw [h2] at h; simp only [firstNZ, if_pos h1, whenI, Bool.not_false, if_true] at h
      rw [if_neg (by decide)] at h; exact absurd h (by decide)
    · cases ink
      · rw [h2] at h; simp only [firstNZ, if_pos h1, whenI, Bool.not_true, Bool.not_false, if_true] at h
        simp at h
      · exact ⟨h1, inB_true.1 h2, rfl⟩
  · simp only [firstNZ, if_neg h1] at h; exact absurd h h1

end Go.Proofs.YtkhajhcfplicpaaDoor


/-! The scores: Find$1, FindSlant$1, FindOf$1, FindSlantOf$1. -/
namespace Go.Proofs.YtkhajhcfplicpaaDoor
open Go.RowKit

def slantS (bs : List Bool) (W H : Nat) (n : Int) : Int := sqN (colI (grid W H (slantF bs W H n)) W H) W

set_option maxRecDepth 100000 in
set_option maxHeartbeats 1000000 in
theorem find1_any (p W H : Nat) (A : Option Addr) (an ac : Nat) (bs : List Bool) (P : Option Addr) (c : Nat) (n : Int) (w : World) (hp : Blk w p 24 #[.int .i64 W, .int .i64 H, .slice A an ac]) (hP : PtReads w P W (spotL bs (W * H))) (hW : 1 ≤ W ∧ W ≤ 4000) (hH : 1 ≤ H ∧ H ≤ 4000) (hbd : W * H ≤ 1048576) (hn : -256 ≤ n ∧ n ≤ 256) :
    Calls Tryd.prog 228 #[.slice P (spotL bs (W * H)).length c, .int .i64 n, .pointer (some ⟨p, 0, none⟩)] w fun e w' => e = .returned (.int .i64 (scoreI bs W H n)) ∧ Bl w w' := by
  have kp := hp.all3
  have hsl := spotL_lt bs (W * H)
  have hsn := spotL_len bs (W * H)
  have Hsl := Lib.hid hsl; have HP := Lib.hid hP
  have hsn2 : (spotL bs (W * H)).length ≤ 1048576 := by omega
  clear hsl hP hsn
  go_enter Tryd.func228, Tryd.ntmps228
  go_wp2_with fail
  refine (profile_any W H A an ac n (spotL bs (W * H)) P c w HP.out Hsl.out hsn2 hW hH hn).mono ?_
  rintro e w1 ⟨g, rfl, hg, hbk, hb1⟩
  have e : tabI (2 * H) (fun k => (((spotL bs (W * H)).countP (profK W H n k) : Nat) : Int)) = tabI (2 * H) (profI bs W H n) := tabI_congr fun k _ => prof_count bs W H n k
  rw [e] at hbk
  have Hr := Lib.hid hbk.tabReads
  clear e hbk
  go_wp2_with fail
  refine (squares_any (some ⟨g, 0, none⟩) (2 * H) (2 * H) (profI bs W H n) w1 Hr.out (by omega) (profI_bd hbd)).mono ?_
  rintro e w2 ⟨rfl, rfl⟩
  go_wp2_with fail
  go_ret
  exact ⟨rfl, hb1⟩

end Go.Proofs.YtkhajhcfplicpaaDoor
