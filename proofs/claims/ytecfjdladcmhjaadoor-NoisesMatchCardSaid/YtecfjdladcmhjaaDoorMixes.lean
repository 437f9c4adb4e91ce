/- At, halving and pasting. -/
import Derived.Test.YtecfjdladcmhjaaDoorSame
import Derived.Test.YtecfjdladcmhjaaDoorMeans2
namespace Go.Proofs.YtecfjdladcmhjaaDoor
open Go.RowKit

/-! ### plain -/
/-- The ink at a place, also beyond the page. -/
def atI (bs : List Bool) (W H x y : Int) : Bool := decide (0 ≤ x ∧ x < W ∧ 0 ≤ y ∧ y < H) && bs.getD (y.toNat * W.toNat + x.toNat) false
def pix (bs : List Bool) (W x y : Nat) : Bool := bs.getD (y * W + x) false
theorem atI_in (bs : List Bool) (W H x y : Nat) (hx : x < W) (hy : y < H) : atI bs W H x y = pix bs W x y := by
  unfold atI pix
  have : decide (0 ≤ (x : Int) ∧ (x : Int) < W ∧ 0 ≤ (y : Int) ∧ (y : Int) < H) = true := by simp; omega
  rw [this]; simp
theorem atI_out (bs : List Bool) (W H x y : Int) (h : ¬ (0 ≤ x ∧ x < W ∧ 0 ≤ y ∧ y < H)) : atI bs W H x y = false := by
  unfold atI; simp only [h]; simp

/-- The cell of a place. -/
theorem Reads.place {w : World} {A : Option Addr} {W H : Nat} {bs : List Bool} (h : Reads w 1 A (W * H) (bs.map .bool)) {x y : Nat} (hx : x < W) (hy : y < H) :
    ∃ ad, A = some ad ∧ w.cell? (ad.add (y * W + x)) = some (.bool (pix bs W x y)) := by
  have hk := place_lt hx hy
  obtain ⟨ad, u, e, hu, hc⟩ := h.at_ hk
  refine ⟨ad, e, ?_⟩
  have hl : y * W + x < bs.length := by have := h.1; simp at this; omega
  have hu' : u = .bool (pix bs W x y) := by simpa [pix, List.getD, hl] using hu.symm
  rw [hc, hu']

/-! ### bedref2.At -/
set_option maxRecDepth 100000 in
set_option maxHeartbeats 1000000 in
theorem at_any (W H : Nat) (A : Option Addr) (c : Nat) (bs : List Bool) (x y : Int) (w : World) (hr : Reads w 1 A (W * H) (bs.map .bool)) (hW : W ≤ 4000) (hH : H ≤ 4000) :
    Calls Tryd.prog 103 #[.agg #[.int .i64 W, .int .i64 H, .slice A (W * H) c], .int .i64 x, .int .i64 y] w fun e w' => e = .returned (.bool (atI bs W H x y)) ∧ Bl w w' := by
  cases h1 : inB x 0 ((W : Int) - 1)
  case false =>
    have ha : atI bs W H x y = false := atI_out _ _ _ _ _ (by have := inB_false.1 h1; omega)
    have Ha := Lib.hid ha; clear ha hr
    go_enter Tryd.func103, Tryd.ntmps103
    go_wp2_with (go_at_call 46; refine (in_any _ _ _ _).mono ?_; rintro e w' ⟨rfl, rfl⟩)
    go_ret
    exact ⟨ret_bool Ha.out.symm, (Bl.refl _).alloc _⟩
  case true =>
    cases h2 : inB y 0 ((H : Int) - 1)
    case false =>
      have ha : atI bs W H x y = false := atI_out _ _ _ _ _ (by have := inB_false.1 h2; omega)
      have Ha := Lib.hid ha; clear ha hr
      go_enter Tryd.func103, Tryd.ntmps103
      go_wp2_with (go_at_call 46; refine (in_any _ _ _ _).mono ?_; rintro e w' ⟨rfl, rfl⟩)
      go_ret
      exact ⟨ret_bool Ha.out.symm, (Bl.refl _).alloc _⟩
    case true =>
      obtain ⟨a1, a2⟩ := inB_true.1 h1
      obtain ⟨b1, b2⟩ := inB_true.1 h2
      obtain ⟨x, rfl⟩ := Int.eq_ofNat_of_zero_le a1
      obtain ⟨y, rfl⟩ := Int.eq_ofNat_of_zero_le b1
      have hx : x < W := by omega
      have hy : y < H := by omega
      have ha := atI_in bs W H x y hx hy
      obtain ⟨ad, rfl, hc⟩ := hr.place hx hy
      have hk := place_lt hx hy
      obtain ⟨k, hkk⟩ : ∃ k, k = y * W + x := ⟨_, rfl⟩
      rw [← hkk] at hc hk
      have ek : (y : Int) * (W : Int) + (x : Int) = (k : Int) := by rw [hkk]; simp
      have hkl : (k : Int) < (W : Int) * (H : Int) := by have := Int.natCast_mul W H; omega
      have hq : (0 : Int) ≤ (y : Int) * (W : Int) ∧ (y : Int) * (W : Int) ≤ 16000000 := by
        have h5 := Int.natCast_mul y W
        have h6 := Nat.mul_le_mul (show y ≤ 4000 by omega) hW
        omega
      have hlt : ad.block < w.heap.size := by have := World.block_lt_of_cell? w _ hc; rwa [block_of_add] at this
      have hc' : ∀ o, (w.alloc o).cell? (ad.add k) = some (.bool (pix bs W x y)) := fun o => ((Bl.refl w).alloc o).at hc
      have Ha := Lib.hid ha; have Hkk := Lib.hid hkk
      clear ha hkk hr
      go_enter Tryd.func103, Tryd.ntmps103
      go_wp2_with (go_at_call 46; refine (in_any _ _ _ _).mono ?_; rintro e w' ⟨rfl, rfl⟩)
      go_ret
      exact ⟨ret_bool Ha.out.symm, (Bl.refl _).alloc _⟩

end Go.Proofs.YtecfjdladcmhjaaDoor
