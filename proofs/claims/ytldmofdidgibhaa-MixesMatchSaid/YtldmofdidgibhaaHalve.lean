/- Halving a page: in the program and in the law. -/
import Derived.Test.YtldmofdidgibhaaSame
import Derived.Test.YtldmofdidgibhaaMeans2
namespace Go.Proofs.Ytldmofdidgibhaa
open Go.RowKit

/-! ### plain -/
theorem boxSum_le {v : Nat → Int} (hv : ∀ i, 0 ≤ v i ∧ v i ≤ 255) (W x y l : Nat) : ∀ h : Nat, boxSum v W x y l h ≤ 255 * ((l : Int) * (h : Int))
  | 0 => by simp [boxSum]; omega
  | h + 1 => by
    have h1 := boxSum_le hv W x y l h
    have h2 := rowDiff_bd hv W (y + h) x l
    rw [boxSum_succ]
    have e : (l : Int) * ((h + 1 : Nat) : Int) = (l : Int) * (h : Int) + (l : Int) := by rw [Int.natCast_succ, Int.mul_add, Int.mul_one]
    rw [e]
    omega
theorem roundI_byte {s n : Int} (h0 : 0 ≤ s) (hn : 1 ≤ n) (hs : s ≤ 255 * n) : 0 ≤ roundI s n ∧ roundI s n ≤ 255 := by
  unfold roundI
  constructor
  · exact Int.ediv_nonneg (by omega) (by omega)
  · have : (2 * s + n) / (2 * n) < 256 := Int.ediv_lt_of_lt_mul (by omega) (by omega)
    omega
def halfLong (W x : Nat) : Nat := min (2 * x + 2) W - 2 * x
def halfAt (zs : List Int) (W H x y : Nat) : Int := roundI (boxSum (valOf zs) W (2 * x) (2 * y) (halfLong W x) (halfLong H y)) ((halfLong W x : Int) * (halfLong H y : Int))

/-- The sum so far in two loops, row by row. -/
def partSum (v : Nat → Int) (W lx ly nx j i : Nat) : Int := boxSum v W lx ly nx (j - ly) + (rowSum v W j i - rowSum v W j lx)
theorem partSum_step (v : Nat → Int) (W lx ly nx j i : Nat) : partSum v W lx ly nx j i + v (j * W + i) = partSum v W lx ly nx j (i + 1) := by
  unfold partSum; simp only [rowSum]; omega
theorem partSum_row (v : Nat → Int) (W lx ly nx j : Nat) (hj : ly ≤ j) : partSum v W lx ly nx j (lx + nx) = partSum v W lx ly nx (j + 1) lx := by
  unfold partSum
  rw [show j + 1 - ly = (j - ly) + 1 by omega, boxSum_succ, show ly + (j - ly) = j by omega]
  omega
theorem partSum_bd {v : Nat → Int} (hv : ∀ i, 0 ≤ v i ∧ v i ≤ 255) (W lx ly nx j i : Nat) (hn : nx ≤ 4000) (hi : lx ≤ i) (hi2 : i ≤ 4000) (hj : j ≤ 4000) : 0 ≤ partSum v W lx ly nx j i ∧ partSum v W lx ly nx j i ≤ 5000000000 := by
  have h1 := boxSum_bd hv W lx ly nx hn (j - ly)
  have h2 := rowDiff_bd hv W j lx (i - lx)
  rw [show lx + (i - lx) = i by omega] at h2
  unfold partSum
  omega

set_option maxRecDepth 100000 in
set_option maxHeartbeats 2000000 in
theorem halve1_any (pg : Nat) (W H : Nat) (A : Option Addr) (c : Nat) (zs : List Int) (x y : Nat) (w : World) (hg : Blk w pg 24 #[.int .i64 W, .int .i64 H, .slice A (W * H) c]) (hr : Reads w 1 A (W * H) (zs.map (.int .u8))) (hz : Bytes zs)
    (hW : W ≤ 4000) (hH : H ≤ 4000) (hx : x < (W + 1) / 2) (hy : y < (H + 1) / 2) :
    Calls Try.prog 101 #[.int .i64 x, .int .i64 y, .pointer (some ⟨pg, 0, none⟩)] w fun e w' => e = .returned (.int .u8 (halfAt zs W H x y)) ∧ Bl w w' := by
  have kg := hg.all3
  have hpos : 0 < W * H := Nat.mul_pos (by omega) (by omega)
  obtain ⟨ad, rfl, hcell⟩ := hr.2 hpos
  have hel : ∀ k, k < W * H → w.cell? (ad.add k) = some (.int .u8 (valOf zs k)) := by
    intro k hk
    have hl : zs.length = W * H := by have := hr.1; simpa using this
    exact hcell k _ (by simp [valOf, List.getD, hl, hk])
  have Hel := Lib.hid hel; have Hz := Lib.hid hz
  clear hel hz hcell hr hg
  have hWH : W * H ≤ 16000000 := by have := Nat.mul_le_mul hW hH; omega
  have hm : halfAt zs W H x y = roundI (boxSum (valOf zs) W (2 * x) (2 * y) (halfLong W x) (halfLong H y)) ((halfLong W x : Int) * (halfLong H y : Int)) := rfl
  have hs1 := boxSum_le Hz.out.at W (2 * x) (2 * y) (halfLong W x) (halfLong H y)
  have hs2 := boxSum_bd Hz.out.at W (2 * x) (2 * y) (halfLong W x) (by unfold halfLong; omega) (halfLong H y)
  obtain ⟨lx, hlx⟩ : ∃ a, a = 2 * x := ⟨_, rfl⟩
  obtain ⟨ly, hly⟩ : ∃ a, a = 2 * y := ⟨_, rfl⟩
  obtain ⟨nx, hnx⟩ : ∃ a, a = halfLong W x := ⟨_, rfl⟩
  obtain ⟨ny, hny⟩ : ∃ a, a = halfLong H y := ⟨_, rfl⟩
  rw [← hlx, ← hly, ← hnx, ← hny] at hm hs1 hs2
  unfold halfLong at hnx hny
  have bx : lx + nx ≤ W ∧ 1 ≤ nx ∧ nx ≤ 2 := by omega
  have by_ : ly + ny ≤ H ∧ 1 ≤ ny ∧ ny ≤ 2 := by omega
  have bmm : 1 ≤ (nx : Int) * (ny : Int) ∧ (nx : Int) * (ny : Int) ≤ 4 := by
    have h1 := Nat.mul_le_mul bx.2.2 by_.2.2
    have h2 := Nat.mul_le_mul bx.2.1 by_.2.1
    have h3 := Int.natCast_mul nx ny
    omega
  have hby := roundI_byte hs2.1 bmm.1 hs1
  rw [← hm] at hby
  have f1 : (2 : Int) * (x : Int) = (lx : Int) := by omega
  have f2 : (2 : Int) * (y : Int) = (ly : Int) := by omega
  have n1 : (if (W : Int) < (lx : Int) + 2 then (W : Int) else (lx : Int) + 2) = (lx : Int) + (nx : Int) := by split <;> omega
  have n2 : (if (H : Int) < (ly : Int) + 2 then (H : Int) else (ly : Int) + 2) = (ly : Int) + (ny : Int) := by split <;> omega
  have n3 : (if (lx : Int) + 2 < (W : Int) then (lx : Int) + 2 else (W : Int)) = (lx : Int) + (nx : Int) := by split <;> omega
  have n4 : (if (ly : Int) + 2 < (H : Int) then (ly : Int) + 2 else (H : Int)) = (ly : Int) + (ny : Int) := by split <;> omega
  have Hm := Lib.hid hm
  clear hlx hly hnx hny hm
  go_enter Try.func101, Try.ntmps101
  go_wp2_with fail
  go_loop [6, 7, 8] (fun s m u => ∃ (j : Nat) (mm : Nat), ly ≤ j ∧ j ≤ ly + ny ∧ u = .int .i64 j ∧ s = .int .i64 (partSum (valOf zs) W lx ly nx j lx) ∧ m = .int .i64 mm ∧ Hid (mm = (j - ly) * nx)) (fun _ _ u => ly + ny - (intOf u).toNat)
  case atStart => exact ⟨ly, 0, Nat.le_refl _, by omega, rfl, by simp [partSum, boxSum]; omega, rfl, by unfold Hid; simp⟩
  case round =>
    obtain ⟨j, mm, hj1, hj2, rfl, rfl, rfl, hmm⟩ := hrel
    by_cases hj : j < ly + ny
    · go_wp2_with fail
      go_loop [6, 7, 9] (fun s m u => ∃ (i : Nat) (nn : Nat), lx ≤ i ∧ i ≤ lx + nx ∧ u = .int .i64 i ∧ s = .int .i64 (partSum (valOf zs) W lx ly nx j i) ∧ m = .int .i64 nn ∧ Hid (nn = mm + (i - lx))) (fun _ _ u => lx + nx - (intOf u).toNat)
      case atStart => exact ⟨lx, mm, Nat.le_refl _, by omega, rfl, rfl, rfl, by unfold Hid; omega⟩
      case round =>
        obtain ⟨i, nn, hi1, hi2, rfl, rfl, rfl, hnn⟩ := hrel
        by_cases hi : i < lx + nx
        · have m2 := mul_step (a := W) (show j < H by omega)
          obtain ⟨k, hk⟩ : ∃ k, k = j * W + i := ⟨_, rfl⟩
          have hkl : k < W * H := by rw [Nat.mul_comm W H]; omega
          have ekk : (j : Int) * (W : Int) + (i : Int) = (k : Int) := by rw [hk]; simp
          have q1 : (0 : Int) ≤ (j : Int) * (W : Int) ∧ (j : Int) * (W : Int) ≤ 16000000 := by
            have := Int.natCast_mul j W; rw [Nat.mul_comm W H] at hWH; omega
          have q2 : (k : Int) < (W : Int) * (H : Int) := by have := Int.natCast_mul W H; omega
          have kel : w.cell? (ad.add k) = some (.int .u8 (valOf zs k)) := Hel.out k hkl
          have bv := Hz.out.at k
          have bs := partSum_bd Hz.out.at W lx ly nx j i (by omega) hi1 (by omega) (by omega)
          have hst := partSum_step (valOf zs) W lx ly nx j i
          rw [← hk] at hst
          have bn : nn ≤ 16 := by
            have := hnn.out; have := hmm.out
            have := Nat.mul_le_mul (show j - ly ≤ 2 by omega) (show nx ≤ 2 by omega)
            omega
          have Hk := Lib.hid hk; have Hst := Lib.hid hst
          clear hk hst m2
          go_wp2_with fail
          exact ⟨⟨i + 1, nn + 1, by omega, by omega, by go_num, by rw [Hst.out], by go_num, by have := hnn.out; unfold Hid; omega⟩, by simp [intOf]; omega⟩
        · go_wp2_with fail
          obtain rfl : i = lx + nx := by omega
          refine ⟨⟨j + 1, nn, by omega, by omega, by go_num, by rw [partSum_row _ _ _ _ _ _ hj1], rfl, ?_⟩, by simp [intOf]; omega⟩
          have := hnn.out; have := hmm.out
          unfold Hid
          rw [show j + 1 - ly = (j - ly) + 1 by omega, Nat.add_mul]
          omega
    · obtain rfl : j = ly + ny := by omega
      have hmv : mm = nx * ny := by have := hmm.out; rw [this, show ly + ny - ly = ny by omega, Nat.mul_comm]
      have hsv : partSum (valOf zs) W lx ly nx (ly + ny) lx = boxSum (valOf zs) W lx ly nx ny := by unfold partSum; rw [show ly + ny - ly = ny by omega]; omega
      have bs := partSum_bd Hz.out.at W lx ly nx (ly + ny) lx (by omega) (Nat.le_refl _) (by omega) (by omega)
      have bm : 1 ≤ mm ∧ mm ≤ 4 := by have := Int.natCast_mul nx ny; omega
      have hrr : roundI (partSum (valOf zs) W lx ly nx (ly + ny) lx) (mm : Int) = halfAt zs W H x y := by
        rw [hsv, Hm.out, hmv]; simp
      have Hmv := Lib.hid hmv; have Hsv := Lib.hid hsv
      clear hmv hsv
      go_wp2_with (go_at_call 97; refine (rounded_any _ _ _ (by omega) (by omega) (by omega) (by omega)).mono ?_; rintro e w' ⟨rfl, rfl⟩)
      go_ret
      exact ⟨ret_int (by have e := IntWalk.u8_in (halfAt zs W H x y) hby; first | rfl | exact e | omega), Bl.refl _⟩

set_option maxRecDepth 100000 in
set_option maxHeartbeats 2000000 in
theorem mixes1_any (pg : Nat) (W H : Nat) (A : Option Addr) (c : Nat) (zs : List Int) (x y : Nat) (w : World) (hg : Blk w pg 24 #[.int .i64 W, .int .i64 H, .slice A (W * H) c]) (hr : Reads w 1 A (W * H) (zs.map (.int .u8))) (hz : Bytes zs)
    (hW : W ≤ 4000) (hH : H ≤ 4000) (hx : x < (W + 1) / 2) (hy : y < (H + 1) / 2) :
    Calls Try.prog 24 #[.int .i64 x, .int .i64 y, .pointer (some ⟨pg, 0, none⟩)] w fun e w' => e = .returned (.int .u8 (halfAt zs W H x y)) ∧ Bl w w' := by
  have kg := hg.all3
  have hpos : 0 < W * H := Nat.mul_pos (by omega) (by omega)
  obtain ⟨ad, rfl, hcell⟩ := hr.2 hpos
  have hel : ∀ k, k < W * H → w.cell? (ad.add k) = some (.int .u8 (valOf zs k)) := by
    intro k hk
    have hl : zs.length = W * H := by have := hr.1; simpa using this
    exact hcell k _ (by simp [valOf, List.getD, hl, hk])
  have Hel := Lib.hid hel; have Hz := Lib.hid hz
  clear hel hz hcell hr hg
  have hWH : W * H ≤ 16000000 := by have := Nat.mul_le_mul hW hH; omega
  have hm : halfAt zs W H x y = roundI (boxSum (valOf zs) W (2 * x) (2 * y) (halfLong W x) (halfLong H y)) ((halfLong W x : Int) * (halfLong H y : Int)) := rfl
  have hs1 := boxSum_le Hz.out.at W (2 * x) (2 * y) (halfLong W x) (halfLong H y)
  have hs2 := boxSum_bd Hz.out.at W (2 * x) (2 * y) (halfLong W x) (by unfold halfLong; omega) (halfLong H y)
  obtain ⟨lx, hlx⟩ : ∃ a, a = 2 * x := ⟨_, rfl⟩
  obtain ⟨ly, hly⟩ : ∃ a, a = 2 * y := ⟨_, rfl⟩
  obtain ⟨nx, hnx⟩ : ∃ a, a = halfLong W x := ⟨_, rfl⟩
  obtain ⟨ny, hny⟩ : ∃ a, a = halfLong H y := ⟨_, rfl⟩
  rw [← hlx, ← hly, ← hnx, ← hny] at hm hs1 hs2
  unfold halfLong at hnx hny
  have bx : lx + nx ≤ W ∧ 1 ≤ nx ∧ nx ≤ 2 := by omega
  have by_ : ly + ny ≤ H ∧ 1 ≤ ny ∧ ny ≤ 2 := by omega
  have bmm : 1 ≤ (nx : Int) * (ny : Int) ∧ (nx : Int) * (ny : Int) ≤ 4 := by
    have h1 := Nat.mul_le_mul bx.2.2 by_.2.2
    have h2 := Nat.mul_le_mul bx.2.1 by_.2.1
    have h3 := Int.natCast_mul nx ny
    omega
  have hby := roundI_byte hs2.1 bmm.1 hs1
  rw [← hm] at hby
  have f1 : (2 : Int) * (x : Int) = (lx : Int) := by omega
  have f2 : (2 : Int) * (y : Int) = (ly : Int) := by omega
  have n1 : (if (W : Int) < (lx : Int) + 2 then (W : Int) else (lx : Int) + 2) = (lx : Int) + (nx : Int) := by split <;> omega
  have n2 : (if (H : Int) < (ly : Int) + 2 then (H : Int) else (ly : Int) + 2) = (ly : Int) + (ny : Int) := by split <;> omega
  have n3 : (if (lx : Int) + 2 < (W : Int) then (lx : Int) + 2 else (W : Int)) = (lx : Int) + (nx : Int) := by split <;> omega
  have n4 : (if (ly : Int) + 2 < (H : Int) then (ly : Int) + 2 else (H : Int)) = (ly : Int) + (ny : Int) := by split <;> omega
  have Hm := Lib.hid hm
  clear hlx hly hnx hny hm
  go_enter Try.func24, Try.ntmps24
  go_wp2_with fail
  go_loop [6, 7, 8] (fun s m u => ∃ (j : Nat) (mm : Nat), ly ≤ j ∧ j ≤ ly + ny ∧ u = .int .i64 j ∧ s = .int .i64 (partSum (valOf zs) W lx ly nx j lx) ∧ m = .int .i64 mm ∧ Hid (mm = (j - ly) * nx)) (fun _ _ u => ly + ny - (intOf u).toNat)
  case atStart => exact ⟨ly, 0, Nat.le_refl _, by omega, rfl, by simp [partSum, boxSum]; omega, rfl, by unfold Hid; simp⟩
  case round =>
    obtain ⟨j, mm, hj1, hj2, rfl, rfl, rfl, hmm⟩ := hrel
    by_cases hj : j < ly + ny
    · go_wp2_with fail
      go_loop [6, 7, 9] (fun s m u => ∃ (i : Nat) (nn : Nat), lx ≤ i ∧ i ≤ lx + nx ∧ u = .int .i64 i ∧ s = .int .i64 (partSum (valOf zs) W lx ly nx j i) ∧ m = .int .i64 nn ∧ Hid (nn = mm + (i - lx))) (fun _ _ u => lx + nx - (intOf u).toNat)
      case atStart => exact ⟨lx, mm, Nat.le_refl _, by omega, rfl, rfl, rfl, by unfold Hid; omega⟩
      case round =>
        obtain ⟨i, nn, hi1, hi2, rfl, rfl, rfl, hnn⟩ := hrel
        by_cases hi : i < lx + nx
        · have m2 := mul_step (a := W) (show j < H by omega)
          obtain ⟨k, hk⟩ : ∃ k, k = j * W + i := ⟨_, rfl⟩
          have hkl : k < W * H := by rw [Nat.mul_comm W H]; omega
          have ekk : (j : Int) * (W : Int) + (i : Int) = (k : Int) := by rw [hk]; simp
          have q1 : (0 : Int) ≤ (j : Int) * (W : Int) ∧ (j : Int) * (W : Int) ≤ 16000000 := by
            have := Int.natCast_mul j W; rw [Nat.mul_comm W H] at hWH; omega
          have q2 : (k : Int) < (W : Int) * (H : Int) := by have := Int.natCast_mul W H; omega
          have kel : w.cell? (ad.add k) = some (.int .u8 (valOf zs k)) := Hel.out k hkl
          have bv := Hz.out.at k
          have bs := partSum_bd Hz.out.at W lx ly nx j i (by omega) hi1 (by omega) (by omega)
          have hst := partSum_step (valOf zs) W lx ly nx j i
          rw [← hk] at hst
          have bn : nn ≤ 16 := by
            have := hnn.out; have := hmm.out
            have := Nat.mul_le_mul (show j - ly ≤ 2 by omega) (show nx ≤ 2 by omega)
            omega
          have Hk := Lib.hid hk; have Hst := Lib.hid hst
          clear hk hst m2
          go_wp2_with fail
          exact ⟨⟨i + 1, nn + 1, by omega, by omega, by go_num, by rw [Hst.out], by go_num, by have := hnn.out; unfold Hid; omega⟩, by simp [intOf]; omega⟩
        · go_wp2_with fail
          obtain rfl : i = lx + nx := by omega
          refine ⟨⟨j + 1, nn, by omega, by omega, by go_num, by rw [partSum_row _ _ _ _ _ _ hj1], rfl, ?_⟩, by simp [intOf]; omega⟩
          have := hnn.out; have := hmm.out
          unfold Hid
          rw [show j + 1 - ly = (j - ly) + 1 by omega, Nat.add_mul]
          omega
    · obtain rfl : j = ly + ny := by omega
      have hmv : mm = nx * ny := by have := hmm.out; rw [this, show ly + ny - ly = ny by omega, Nat.mul_comm]
      have hsv : partSum (valOf zs) W lx ly nx (ly + ny) lx = boxSum (valOf zs) W lx ly nx ny := by unfold partSum; rw [show ly + ny - ly = ny by omega]; omega
      have bs := partSum_bd Hz.out.at W lx ly nx (ly + ny) lx (by omega) (Nat.le_refl _) (by omega) (by omega)
      have bm : 1 ≤ mm ∧ mm ≤ 4 := by have := Int.natCast_mul nx ny; omega
      have hrr : roundI (partSum (valOf zs) W lx ly nx (ly + ny) lx) (mm : Int) = halfAt zs W H x y := by
        rw [hsv, Hm.out, hmv]; simp
      have Hmv := Lib.hid hmv; have Hsv := Lib.hid hsv
      clear hmv hsv
      go_wp2_with (go_at_call 17; refine (round_any _ _ _ (by omega) (by omega) (by omega) (by omega)).mono ?_; rintro e w' ⟨rfl, rfl⟩)
      go_ret
      exact ⟨ret_int (by have e := IntWalk.u8_in (halfAt zs W H x y) hby; first | rfl | exact e | omega), Bl.refl _⟩

end Go.Proofs.Ytldmofdidgibhaa
