/- The plain law of leaning and of profiles. -/
import Derived.Test.YtecfjdladcmhjaaDoorTab
namespace Go.Proofs.YtecfjdladcmhjaaDoor
open Go.RowKit

/-! ### a number that leans -/
def shiftI (n : Int) : Int := if n < 0 then -roundI (-n) 1024 else roundI n 1024
theorem shiftI_bd {n : Int} (h : -2000000 ≤ n ∧ n ≤ 2000000) : -2000 ≤ shiftI n ∧ shiftI n ≤ 2000 := by
  unfold shiftI roundI
  split <;> omega
def leanI (W : Nat) (n : Int) (x : Nat) : Int := shiftI (n * ((x : Int) - ((W : Int) - 1) / 2))
theorem leanArg_bd {W : Nat} {n : Int} {x : Nat} (hW : W ≤ 4000) (hn : -256 ≤ n ∧ n ≤ 256) (hx : x < W) : -2000000 ≤ n * ((x : Int) - ((W : Int) - 1) / 2) ∧ n * ((x : Int) - ((W : Int) - 1) / 2) ≤ 2000000 := by
  obtain ⟨d, hd⟩ : ∃ d, d = (x : Int) - ((W : Int) - 1) / 2 := ⟨_, rfl⟩
  rw [← hd]
  have h1 : -4000 ≤ d ∧ d ≤ 4000 := by omega
  have h2 : (n * d).natAbs ≤ 256 * 4000 := by
    rw [Int.natAbs_mul]
    exact Nat.mul_le_mul (by omega) (by omega)
  omega
theorem leanI_bd {W : Nat} {n : Int} {x : Nat} (hW : W ≤ 4000) (hn : -256 ≤ n ∧ n ≤ 256) (hx : x < W) : -2000 ≤ leanI W n x ∧ leanI W n x ≤ 2000 :=
  shiftI_bd (leanArg_bd hW hn hx)

/-! ### places of ink -/
def spotL (bs : List Bool) : Nat → List Nat
  | 0 => []
  | m + 1 => spotL bs m ++ (if bs.getD m false then [m] else [])
theorem spotL_lt (bs : List Bool) : ∀ (m : Nat) (i : Nat), i ∈ spotL bs m → i < m
  | 0, i, h => by simp [spotL] at h
  | m + 1, i, h => by
    simp only [spotL, List.mem_append] at h
    rcases h with h | h
    · have := spotL_lt bs m i h; omega
    · split at h <;> simp at h; omega
theorem spotL_len (bs : List Bool) (m : Nat) : (spotL bs m).length ≤ m := by
  induction m with
  | zero => simp [spotL]
  | succ m ih => simp only [spotL, List.length_append]; split <;> simp <;> omega
def b1 (b : Bool) : Nat := if b then 1 else 0
theorem spotL_count (bs : List Bool) (p : Nat → Bool) (m : Nat) : (spotL bs m).countP p = sumN (fun i => b1 (bs.getD i false && p i)) m := by
  induction m with
  | zero => rfl
  | succ m ih =>
    simp only [spotL, List.countP_append, ih, sumN]
    cases bs.getD m false <;> cases hp : p m <;> simp [b1, hp]

/-- The place in the profile. -/
def profAt (W H : Nat) (n : Int) (i : Nat) : Int := ((H / 2 : Nat) : Int) + ((i / W : Nat) : Int) + leanI W n (i % W)
def profK (W H : Nat) (n : Int) (k i : Nat) : Bool := decide (profAt W H n i = (k : Int))
/-- How much ink row k of the profile has. -/
def profN (bs : List Bool) (W H : Nat) (n : Int) (k : Nat) : Nat := sumN (fun i => b1 (bs.getD i false && profK W H n k i)) (W * H)
/-- .. as far as columns and rows are seen. -/
def profC (bs : List Bool) (W H : Nat) (n : Int) (x y : Nat) (k : Nat) : Nat :=
  sumN (fun x' => sumN (fun y' => b1 (bs.getD (y' * W + x') false && profK W H n k (y' * W + x'))) H) x + sumN (fun y' => b1 (bs.getD (y' * W + x) false && profK W H n k (y' * W + x))) y
theorem profC_start (bs : List Bool) (W H : Nat) (n : Int) (k : Nat) : profC bs W H n 0 0 k = 0 := rfl
theorem profC_col (bs : List Bool) (W H : Nat) (n : Int) (x k : Nat) : profC bs W H n x H k = profC bs W H n (x + 1) 0 k := rfl
theorem profC_end (bs : List Bool) (W H : Nat) (n : Int) (k : Nat) : profC bs W H n W 0 k = profN bs W H n k := by
  unfold profC profN
  rw [sumN_cols (fun i => b1 (bs.getD i false && profK W H n k i))]
  rfl
theorem profC_step (bs : List Bool) (W H : Nat) (n : Int) (x y k : Nat) : profC bs W H n x (y + 1) k = profC bs W H n x y k + b1 (bs.getD (y * W + x) false && profK W H n k (y * W + x)) := by
  unfold profC; simp only [sumN]; omega
theorem profN_le (bs : List Bool) (W H : Nat) (n : Int) (k : Nat) : profN bs W H n k ≤ W * H := by
  have := sumN_le (f := fun i => b1 (bs.getD i false && profK W H n k i)) (c := 1) (fun i => by unfold b1; split <;> omega) (W * H)
  simpa [profN] using this
def sqI (l : List Int) : Int := (l.map fun n => n * n).sum
end Go.Proofs.YtecfjdladcmhjaaDoor
