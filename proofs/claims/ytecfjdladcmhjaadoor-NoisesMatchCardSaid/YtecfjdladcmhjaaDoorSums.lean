/- Sums of values from the upper left corner on: what page.SumsOf makes, what the sum of a box is. -/
import Derived.Test.YtecfjdladcmhjaaDoorNum
namespace Go.Proofs.YtecfjdladcmhjaaDoor
open Go.RowKit

theorem info_int : (Tryd.prog.info? 3).map (fun i => (i.zero, i.size, i.bytes)) = some (some (.int .i64 0), 1, 8) := by kernel_rfl
theorem info_bool : (Tryd.prog.info? 4).map (fun i => (i.zero, i.size, i.bytes)) = some (some (.bool false), 1, 1) := by kernel_rfl
theorem info_u8 : (Tryd.prog.info? 5).map (fun i => (i.zero, i.size, i.bytes)) = some (some (.int .u8 0), 1, 1) := by kernel_rfl

/-! ### plain -/
def rowSum (v : Nat → Int) (W y : Nat) : Nat → Int
  | 0 => 0
  | x + 1 => rowSum v W y x + v (y * W + x)
def sat (v : Nat → Int) (W : Nat) : Nat → Nat → Int
  | 0, _ => 0
  | y + 1, x => sat v W y x + rowSum v W y x
def satAt (v : Nat → Int) (W k : Nat) : Int := sat v W (k / (W + 1)) (k % (W + 1))

theorem sat_zero (v : Nat → Int) (W : Nat) : ∀ y, sat v W y 0 = 0
  | 0 => rfl
  | y + 1 => by simp [sat, sat_zero v W y, rowSum]
theorem satAt_eq (v : Nat → Int) (W y x : Nat) (hx : x ≤ W) : satAt v W (y * (W + 1) + x) = sat v W y x := by
  unfold satAt
  rw [Nat.mul_comm, Nat.mul_add_div (by omega), Nat.div_eq_of_lt (by omega), Nat.mul_add_mod, Nat.mod_eq_of_lt (by omega), Nat.add_zero]
theorem rowSum_bd {v : Nat → Int} (hv : ∀ i, 0 ≤ v i ∧ v i ≤ 255) (W y : Nat) : ∀ x, 0 ≤ rowSum v W y x ∧ rowSum v W y x ≤ 255 * x
  | 0 => by simp [rowSum]
  | x + 1 => by
    have := rowSum_bd hv W y x
    have := hv (y * W + x)
    simp only [rowSum]
    omega
theorem sat_bd {v : Nat → Int} (hv : ∀ i, 0 ≤ v i ∧ v i ≤ 255) (W x : Nat) (hx : x ≤ 4000) : ∀ y, 0 ≤ sat v W y x ∧ sat v W y x ≤ 1020000 * y
  | 0 => by simp [sat]
  | y + 1 => by
    have := sat_bd hv W x hx y
    have := rowSum_bd hv W y x
    simp only [sat]
    omega
theorem satAt_bd {v : Nat → Int} (hv : ∀ i, 0 ≤ v i ∧ v i ≤ 255) (W H k : Nat) (hW : W ≤ 4000) (hH : H ≤ 4000) (hk : k < (W + 1) * (H + 1)) : 0 ≤ satAt v W k ∧ satAt v W k ≤ 5000000000 := by
  have h1 : k % (W + 1) < W + 1 := Nat.mod_lt _ (by omega)
  have h2 : k / (W + 1) < H + 1 := Nat.div_lt_of_lt_mul hk
  have := sat_bd hv W (k % (W + 1)) (by omega) (k / (W + 1))
  unfold satAt
  omega

theorem mul_step {a b y : Nat} (h : y < b) : y * a + a ≤ b * a := by
  have := Nat.mul_le_mul_right a (show y + 1 ≤ b from h)
  rw [Nat.add_mul, Nat.one_mul] at this
  exact this

end Go.Proofs.YtecfjdladcmhjaaDoor
