/- Sums of numbers, tables of numbers in memory. -/
import Derived.Test.YtecfjdladcmhjaaDoorSums
namespace Go.Proofs.YtecfjdladcmhjaaDoor
open Go.RowKit

/-! ### sums -/
def sumN (f : Nat → Nat) : Nat → Nat
  | 0 => 0
  | n + 1 => sumN f n + f n
theorem sumN_congr {f g : Nat → Nat} : ∀ {n : Nat}, (∀ i, i < n → f i = g i) → sumN f n = sumN g n
  | 0, _ => rfl
  | n + 1, h => by
    unfold sumN
    rw [sumN_congr (n := n) (fun i hi => h i (by omega)), h n (by omega)]
theorem sumN_zero (n : Nat) : sumN (fun _ => 0) n = 0 := by
  induction n with
  | zero => rfl
  | succ n ih => simp [sumN, ih]
theorem sumN_add (f g : Nat → Nat) (n : Nat) : sumN (fun i => f i + g i) n = sumN f n + sumN g n := by
  induction n with
  | zero => rfl
  | succ n ih => simp only [sumN, ih]; omega
theorem sumN_split (f : Nat → Nat) (m n : Nat) : sumN f (m + n) = sumN f m + sumN (fun i => f (m + i)) n := by
  induction n with
  | zero => rfl
  | succ n ih => rw [← Nat.add_assoc]; simp only [sumN, ih]; omega
theorem sumN_swap (f : Nat → Nat → Nat) (W H : Nat) : sumN (fun x => sumN (fun y => f x y) H) W = sumN (fun y => sumN (fun x => f x y) W) H := by
  induction W with
  | zero => simp [sumN, sumN_zero]
  | succ W ih => simp only [sumN, ih, sumN_add]
theorem sumN_flat (g : Nat → Nat) (W H : Nat) : sumN g (H * W) = sumN (fun y => sumN (fun x => g (y * W + x)) W) H := by
  induction H with
  | zero => simp [sumN]
  | succ H ih => rw [Nat.add_mul, Nat.one_mul, sumN_split, ih]; rfl
theorem sumN_le {f : Nat → Nat} {c : Nat} (h : ∀ i, f i ≤ c) (n : Nat) : sumN f n ≤ n * c := by
  induction n with
  | zero => simp [sumN]
  | succ n ih => have := h n; simp only [sumN, Nat.add_mul]; omega
theorem sumN_mono {f g : Nat → Nat} (h : ∀ i, f i ≤ g i) (n : Nat) : sumN f n ≤ sumN g n := by
  induction n with
  | zero => exact Nat.le_refl _
  | succ n ih => have := h n; simp only [sumN]; omega
/-- Places by rows, or by columns. -/
theorem sumN_cols (g : Nat → Nat) (W H : Nat) : sumN (fun x => sumN (fun y => g (y * W + x)) H) W = sumN g (W * H) := by
  rw [Nat.mul_comm, sumN_flat, sumN_swap]

/-! ### a table of numbers in memory -/
def tabI (N : Nat) (f : Nat → Int) : Array Value := ((List.range N).map fun k => Value.int .i64 (f k)).toArray
theorem tabI_size (N : Nat) (f : Nat → Int) : (tabI N f).size = N := by simp [tabI]
theorem tabI_get {N : Nat} (f : Nat → Int) {k : Nat} (h : k < N) : (tabI N f)[k]? = some (.int .i64 (f k)) := by simp [tabI, h]
theorem tabI_congr {N : Nat} {f g : Nat → Int} (h : ∀ k, k < N → f k = g k) : tabI N f = tabI N g := by
  unfold tabI
  congr 1
  exact List.map_congr_left fun k hk => by rw [h k (List.mem_range.1 hk)]
theorem tabI_set {N : Nat} {f g : Nat → Int} {a : Nat} {v : Int} (hg : ∀ k, k < N → g k = if k = a then v else f k) : (tabI N f).setIfInBounds a (.int .i64 v) = tabI N g := by
  apply Array.ext_getElem?
  intro i
  rcases Nat.lt_or_ge i N with h | h
  · rw [tabI_get g h, hg i h]
    by_cases e : a = i
    · subst e
      simp [tabI, h]
    · rw [Array.getElem?_setIfInBounds_ne e, tabI_get f h, if_neg (fun e' => e e'.symm)]
  · rw [Array.getElem?_eq_none (by simp [tabI_size]; exact h), Array.getElem?_eq_none (by rw [tabI_size]; exact h)]
theorem tabI_made (N : Nat) : madeCells #[.int .i64 0] N = tabI N (fun _ => 0) := by
  apply Array.ext_getElem?
  intro i
  rcases Nat.lt_or_ge i N with h | h
  · rw [tabI_get _ h]; simp [madeCells, h, Nat.mod_one]
  · rw [Array.getElem?_eq_none (by rw [size_madeCells]; exact h), Array.getElem?_eq_none (by rw [tabI_size]; exact h)]
def tabL (N : Nat) (f : Nat → Int) : List Int := (List.range N).map f
theorem tabL_len (N : Nat) (f : Nat → Int) : (tabL N f).length = N := by simp [tabL]
theorem tabL_get {N : Nat} (f : Nat → Int) {k : Nat} (h : k < N) : (tabL N f)[k]? = some (f k) := by simp [tabL, h]
theorem tabL_congr {N : Nat} {f g : Nat → Int} (h : ∀ k, k < N → f k = g k) : tabL N f = tabL N g :=
  List.map_congr_left fun k hk => h k (List.mem_range.1 hk)
theorem Blk.tabReads {w : World} {g : Nat} {t : TypeId} {N : Nat} {f : Nat → Int} (h : Blk w g t (tabI N f)) : Reads w 1 (some ⟨g, 0, none⟩) N ((tabL N f).map (.int .i64)) := by
  have := h.reads N 1 (by rw [tabI_size]; omega)
  have e : (tabI N f).toList = (tabL N f).map (.int .i64) := by simp [tabI, tabL, Function.comp_def]
  rwa [e] at this
theorem Blk.tabAt {w : World} {g : Nat} {t : TypeId} {N : Nat} {f : Nat → Int} (h : Blk w g t (tabI N f)) {k : Nat} (hk : k < N) : w.cell? ⟨g, k, none⟩ = some (.int .i64 (f k)) := (h.cell k).trans (tabI_get f hk)
theorem Blk.tabSet {w : World} {g : Nat} {t : TypeId} {N : Nat} {f f' : Nat → Int} (h : Blk w g t (tabI N f)) (a : Nat) (v : Int) (hg : ∀ k, k < N → f' k = if k = a then v else f k) : Blk (w.setCell ⟨g, a, none⟩ (.int .i64 v)) g t (tabI N f') := by
  have := h.set_ a (.int .i64 v)
  rwa [tabI_set hg] at this
theorem Reads.intAt {w : World} {A : Option Addr} {n k : Nat} {f : Nat → Int} (h : Reads w 1 A n ((tabL n f).map (.int .i64))) (hk : k < n) : ∃ ad, A = some ad ∧ w.cell? (ad.add k) = some (.int .i64 (f k)) := by
  obtain ⟨ad, u, e, hu, hc⟩ := h.at_ hk
  refine ⟨ad, e, ?_⟩
  rw [hc, ← hu]
  simp [tabL, hk]
end Go.Proofs.YtecfjdladcmhjaaDoor
