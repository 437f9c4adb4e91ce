/- page.Means; slices.Equal of numbers; blank pages. -/
import Derived.Test.YtecfjdladcmhjaaDoorMeans
namespace Go.Proofs.YtecfjdladcmhjaaDoor
open Go.RowKit

/-- A byte list reads as bytes. -/
def Bytes (zs : List Int) : Prop := ∀ z ∈ zs, 0 ≤ z ∧ z ≤ 255
def valOf (zs : List Int) (i : Nat) : Int := zs.getD i 0
theorem Bytes.at {zs : List Int} (h : Bytes zs) (i : Nat) : 0 ≤ valOf zs i ∧ valOf zs i ≤ 255 := by
  unfold valOf
  rcases Nat.lt_or_ge i zs.length with hl | hl
  · have := h zs[i] (List.getElem_mem hl)
    simpa [List.getD, hl] using this
  · simp [List.getD, List.getElem?_eq_none hl]

def meansErr (W H : Int) (n : Nat) (r : Int) : Int := if pageErr W H n = 0 then (if inB r 0 200 then 0 else 3) else pageErr W H n
theorem meansErr_first (W H : Int) (n : Nat) (r : Int) : firstNZ [pageErr W H n, whenI (!inB r 0 200) 3] = meansErr W H n r := by
  unfold meansErr
  by_cases h : pageErr W H n = 0
  · rw [if_pos h, h]
    cases inB r 0 200 <;> simp [firstNZ, whenI]
  · rw [if_neg h]; simp [firstNZ, h]

theorem boxSum_succ (v : Nat → Int) (W x y l h : Nat) : boxSum v W x y l (h + 1) = boxSum v W x y l h + (rowSum v W (y + h) (x + l) - rowSum v W (y + h) x) := by
  unfold boxSum
  rw [← Nat.add_assoc]
  simp only [sat]
  omega
theorem rowDiff_bd {v : Nat → Int} (hv : ∀ i, 0 ≤ v i ∧ v i ≤ 255) (W y x : Nat) : ∀ l, 0 ≤ rowSum v W y (x + l) - rowSum v W y x ∧ rowSum v W y (x + l) - rowSum v W y x ≤ 255 * l
  | 0 => by simp
  | l + 1 => by
    have := rowDiff_bd hv W y x l
    have := hv (y * W + (x + l))
    rw [← Nat.add_assoc]
    simp only [rowSum]
    omega
theorem boxSum_bd {v : Nat → Int} (hv : ∀ i, 0 ≤ v i ∧ v i ≤ 255) (W x y l : Nat) (hl : l ≤ 4000) : ∀ h, 0 ≤ boxSum v W x y l h ∧ boxSum v W x y l h ≤ 1020000 * h
  | 0 => by simp [boxSum]; omega
  | h + 1 => by
    have := boxSum_bd hv W x y l hl h
    have := rowDiff_bd hv W (y + h) x l
    rw [boxSum_succ]
    omega

/-- The mean around place number i. -/
def meanAt (zs : List Int) (W H r i : Nat) : Int :=
  roundI (boxSum (valOf zs) W (from_ (i % W) r) (from_ (i / W) r) (long_ (i % W) r W) (long_ (i / W) r H)) ((long_ (i % W) r W : Int) * (long_ (i / W) r H : Int))

def MeansInv (w : World) (B : Nat) (zs : List Int) (W H r : Nat) (wr : World) (m : Nat) : Prop :=
  Bl w wr ∧ ∃ cs : Array Value, Blk wr B 3 cs ∧ cs.size = W * H ∧ ∀ k, k < m → cs[k]? = some (.int .i64 (meanAt zs W H r k))

end Go.Proofs.YtecfjdladcmhjaaDoor
