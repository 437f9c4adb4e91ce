/- bedref2.InkOf, RowsOf, ColumnsOf, Ends, BoundsOf. -/
import Derived.Test.YtkhajhcfplicpaaDoorS0
import Derived.Test.YtkhajhcfplicpaaDoorS1

namespace Go.Proofs.YtkhajhcfplicpaaDoor
open Go.RowKit

/-! ### sums -/
def sumN (f : Nat → Nat) : Nat → Nat
  | 0 => 0
  | n + 1 => sumN f n + f n
theorem sumN_congr {f g : Nat → Nat} : ∀ {n : Nat}, (∀ i, i < n → f i = g i) → sumN f n = sumN g n
  | 0, _ => rfl
  | n + 1, h => by
    unfold sumN
    rw [sumN_congr (n := n) (fun i hi => h i (by omega)), h n (by omega)]
theorem sumN_zero (n : Nat) : sumN (fun _ => 0) n = 0 := by
  induction n with
  | zero => rfl
  | succ n ih => simp [sumN, ih]
theorem sumN_add (f g : Nat → Nat) (n : Nat) : sumN (fun i => f i + g i) n = sumN f n + sumN g n := by
  induction n with
  | zero => rfl
  | succ n ih => simp only [sumN, ih]; omega
theorem sumN_split (f : Nat → Nat) (m n : Nat) : sumN f (m + n) = sumN f m + sumN (fun i => f (m + i)) n := by
  induction n with
  | zero => rfl
  | succ n ih => rw [← Nat.add_assoc]; simp only [sumN, ih]; omega
theorem sumN_swap (f : Nat → Nat → Nat) (W H : Nat) : sumN (fun x => sumN (fun y => f x y) H) W = sumN (fun y => sumN (fun x => f x y) W) H := by
  induction W with
  | zero => simp [sumN, sumN_zero]
  | succ W ih => simp only [sumN, ih, sumN_add]
theorem sumN_flat (g : Nat → Nat) (W H : Nat) : sumN g (H * W) = sumN (fun y => sumN (fun x => g (y * W + x)) W) H := by
  induction H with
  | zero => simp [sumN]
  | succ H ih => rw [Nat.add_mul, Nat.one_mul, sumN_split, ih]; rfl
theorem sumN_le {f : Nat → Nat} {c : Nat} (h : ∀ i, f i ≤ c) (n : Nat) : sumN f n ≤ n * c := by
  induction n with
  | zero => simp [sumN]
  | succ n ih => have := h n; simp only [sumN, Nat.add_mul]; omega
theorem sumN_mono {f g : Nat → Nat} (h : ∀ i, f i ≤ g i) (n : Nat) : sumN f n ≤ sumN g n := by
  induction n with
  | zero => exact Nat.le_refl _
  | succ n ih => have := h n; simp only [sumN]; omega
/-- Places by rows, or by columns. -/
theorem sumN_cols (g : Nat → Nat) (W H : Nat) : sumN (fun x => sumN (fun y => g (y * W + x)) H) W = sumN g (W * H) := by
  rw [Nat.mul_comm, sumN_flat, sumN_swap]

/-! ### a table of numbers in memory -/
def tabI (N : Nat) (f : Nat → Int) : Array Value := ((List.range N).map fun k => Value.int .i64 (f k)).toArray
theorem tabI_size (N : Nat) (f : Nat → Int) : (tabI N f).size = N := by simp [tabI]
theorem tabI_get {N : Nat} (f : Nat → Int) {k : Nat} (h : k < N) : (tabI N f)[k]? = some (.int .i64 (f k)) := by simp [tabI, h]
theorem tabI_congr {N : Nat} {f g : Nat → Int} (h : ∀ k, k < N → f k = g k) : tabI N f = tabI N g := by
  unfold tabI
  congr 1
  exact List.map_congr_left fun k hk => by rw [h k (List.mem_range.1 hk)]
theorem tabI_set {N : Nat} {f g : Nat → Int} {a : Nat} {v : Int} (hg : ∀ k, k < N → g k = if k = a then v else f k) : (tabI N f).setIfInBounds a (.int .i64 v) = tabI N g := by
  apply Array.ext_getElem?
  intro i
  rcases Nat.lt_or_ge i N with h | h
  · rw [tabI_get g h, hg i h]
    by_cases e : a = i
    · subst e
      simp [tabI, h]
    · rw [Array.getElem?_setIfInBounds_ne e, tabI_get f h, if_neg (fun e' => e e'.symm)]
  · rw [Array.getElem?_eq_none (by simp [tabI_size]; exact h), Array.getElem?_eq_none (by rw [tabI_size]; exact h)]
theorem tabI_made (N : Nat) : madeCells #[.int .i64 0] N = tabI N (fun _ => 0) := by
  apply Array.ext_getElem?
  intro i
  rcases Nat.lt_or_ge i N with h | h
  · rw [tabI_get _ h]; simp [madeCells, h, Nat.mod_one]
  · rw [Array.getElem?_eq_none (by rw [size_madeCells]; exact h), Array.getElem?_eq_none (by rw [tabI_size]; exact h)]
def tabL (N : Nat) (f : Nat → Int) : List Int := (List.range N).map f
theorem tabL_len (N : Nat) (f : Nat → Int) : (tabL N f).length = N := by simp [tabL]
theorem tabL_get {N : Nat} (f : Nat → Int) {k : Nat} (h : k < N) : (tabL N f)[k]? = some (f k) := by simp [tabL, h]
theorem tabL_congr {N : Nat} {f g : Nat → Int} (h : ∀ k, k < N → f k = g k) : tabL N f = tabL N g :=
  List.map_congr_left fun k hk => h k (List.mem_range.1 hk)
theorem Blk.tabReads {w : World} {g : Nat} {t : TypeId} {N : Nat} {f : Nat → Int} (h : Blk w g t (tabI N f)) : Reads w 1 (some ⟨g, 0, none⟩) N ((tabL N f).map (.int .i64)) := by
  have := h.reads N 1 (by rw [tabI_size]; omega)
  have e : (tabI N f).toList = (tabL N f).map (.int .i64) := by simp [tabI, tabL, Function.comp_def]
  rwa [e] at this
theorem Blk.tabAt {w : World} {g : Nat} {t : TypeId} {N : Nat} {f : Nat → Int} (h : Blk w g t (tabI N f)) {k : Nat} (hk : k < N) : w.cell? ⟨g, k, none⟩ = some (.int .i64 (f k)) := (h.cell k).trans (tabI_get f hk)
theorem Blk.tabSet {w : World} {g : Nat} {t : TypeId} {N : Nat} {f f' : Nat → Int} (h : Blk w g t (tabI N f)) (a : Nat) (v : Int) (hg : ∀ k, k < N → f' k = if k = a then v else f k) : Blk (w.setCell ⟨g, a, none⟩ (.int .i64 v)) g t (tabI N f') := by
  have := h.set_ a (.int .i64 v)
  rwa [tabI_set hg] at this
theorem Reads.intAt {w : World} {A : Option Addr} {n k : Nat} {f : Nat → Int} (h : Reads w 1 A n ((tabL n f).map (.int .i64))) (hk : k < n) : ∃ ad, A = some ad ∧ w.cell? (ad.add k) = some (.int .i64 (f k)) := by
  obtain ⟨ad, u, e, hu, hc⟩ := h.at_ hk
  refine ⟨ad, e, ?_⟩
  rw [hc, ← hu]
  simp [tabL, hk]
end Go.Proofs.YtkhajhcfplicpaaDoor


/-! The plain law of leaning and of profiles. -/
namespace Go.Proofs.YtkhajhcfplicpaaDoor
open Go.RowKit

/-! ### a number that leans -/
def shiftI (n : Int) : Int := if n < 0 then -roundI (-n) 1024 else roundI n 1024
theorem shiftI_bd {n : Int} (h : -2000000 ≤ n ∧ n ≤ 2000000) : -2000 ≤ shiftI n ∧ shiftI n ≤ 2000 := by
  unfold shiftI roundI
  split <;> omega
def leanI (W : Nat) (n : Int) (x : Nat) : Int := shiftI (n * ((x : Int) - ((W : Int) - 1) / 2))
theorem leanArg_bd {W : Nat} {n : Int} {x : Nat} (hW : W ≤ 4000) (hn : -256 ≤ n ∧ n ≤ 256) (hx : x < W) : -2000000 ≤ n * ((x : Int) - ((W : Int) - 1) / 2) ∧ n * ((x : Int) - ((W : Int) - 1) / 2) ≤ 2000000 := by
  obtain ⟨d, hd⟩ : ∃ d, d = (x : Int) - ((W : Int) - 1) / 2 := ⟨_, rfl⟩
  rw [← hd]
  have h1 : -4000 ≤ d ∧ d ≤ 4000 := by omega
  have h2 : (n * d).natAbs ≤ 256 * 4000 := by
    rw [Int.natAbs_mul]
    exact Nat.mul_le_mul (by omega) (by omega)
  omega
theorem leanI_bd {W : Nat} {n : Int} {x : Nat} (hW : W ≤ 4000) (hn : -256 ≤ n ∧ n ≤ 256) (hx : x < W) : -2000 ≤ leanI W n x ∧ leanI W n x ≤ 2000 :=
  shiftI_bd (leanArg_bd hW hn hx)

/-! ### places of ink -/
def spotL (bs : List Bool) : Nat → List Nat
  | 0 => []
  | m + 1 => spotL bs m ++ (if bs.getD m false then [m] else [])
theorem spotL_lt (bs : List Bool) : ∀ (m : Nat) (i : Nat), i ∈ spotL bs m → i < m
  | 0, i, h => by simp [spotL] at h
  | m + 1, i, h => by
    simp only [spotL, List.mem_append] at h
    rcases h with h | h
    · have := spotL_lt bs m i h; omega
    · split at h <;> simp at h; omega
theorem spotL_len (bs : List Bool) (m : Nat) : (spotL bs m).length ≤ m := by
  induction m with
  | zero => simp [spotL]
  | succ m ih => simp only [spotL, List.length_append]; split <;> simp <;> omega
def b1 (b : Bool) : Nat := if b then 1 else 0
theorem spotL_count (bs : List Bool) (p : Nat → Bool) (m : Nat) : (spotL bs m).countP p = sumN (fun i => b1 (bs.getD i false && p i)) m := by
  induction m with
  | zero => rfl
  | succ m ih =>
    simp only [spotL, List.countP_append, ih, sumN]
    cases bs.getD m false <;> cases hp : p m <;> simp [b1, hp]

/-- The place in the profile. -/
def profAt (W H : Nat) (n : Int) (i : Nat) : Int := ((H / 2 : Nat) : Int) + ((i / W : Nat) : Int) + leanI W n (i % W)
def profK (W H : Nat) (n : Int) (k i : Nat) : Bool := decide (profAt W H n i = (k : Int))
/-- How much ink row k of the profile has. -/
def profN (bs : List Bool) (W H : Nat) (n : Int) (k : Nat) : Nat := sumN (fun i => b1 (bs.getD i false && profK W H n k i)) (W * H)
/-- .. as far as columns and rows are seen. -/
def profC (bs : List Bool) (W H : Nat) (n : Int) (x y : Nat) (k : Nat) : Nat :=
  sumN (fun x' => sumN (fun y' => b1 (bs.getD (y' * W + x') false && profK W H n k (y' * W + x'))) H) x + sumN (fun y' => b1 (bs.getD (y' * W + x) false && profK W H n k (y' * W + x))) y
theorem profC_start (bs : List Bool) (W H : Nat) (n : Int) (k : Nat) : profC bs W H n 0 0 k = 0 := rfl
theorem profC_col (bs : List Bool) (W H : Nat) (n : Int) (x k : Nat) : profC bs W H n x H k = profC bs W H n (x + 1) 0 k := rfl
theorem profC_end (bs : List Bool) (W H : Nat) (n : Int) (k : Nat) : profC bs W H n W 0 k = profN bs W H n k := by
  unfold profC profN
  rw [sumN_cols (fun i => b1 (bs.getD i false && profK W H n k i))]
  rfl
theorem profC_step (bs : List Bool) (W H : Nat) (n : Int) (x y k : Nat) : profC bs W H n x (y + 1) k = profC bs W H n x y k + b1 (bs.getD (y * W + x) false && profK W H n k (y * W + x)) := by
  unfold profC; simp only [sumN]; omega
theorem profN_le (bs : List Bool) (W H : Nat) (n : Int) (k : Nat) : profN bs W H n k ≤ W * H := by
  have := sumN_le (f := fun i => b1 (bs.getD i false && profK W H n k i)) (c := 1) (fun i => by unfold b1; split <;> omega) (W * H)
  simpa [profN] using this
def sqI (l : List Int) : Int := (l.map fun n => n * n).sum
end Go.Proofs.YtkhajhcfplicpaaDoor


/-! The plain law of ink that is moved place by place. -/
namespace Go.Proofs.YtkhajhcfplicpaaDoor
open Go.RowKit

/-! ### a table of bools in memory -/
def tabB (N : Nat) (f : Nat → Bool) : Array Value := ((List.range N).map fun k => Value.bool (f k)).toArray
theorem tabB_size (N : Nat) (f : Nat → Bool) : (tabB N f).size = N := by simp [tabB]
theorem tabB_get {N : Nat} (f : Nat → Bool) {k : Nat} (h : k < N) : (tabB N f)[k]? = some (.bool (f k)) := by simp [tabB, h]
theorem tabB_congr {N : Nat} {f g : Nat → Bool} (h : ∀ k, k < N → f k = g k) : tabB N f = tabB N g := by
  unfold tabB
  congr 1
  exact List.map_congr_left fun k hk => by rw [h k (List.mem_range.1 hk)]
theorem tabB_set {N : Nat} {f g : Nat → Bool} {a : Nat} {v : Bool} (hg : ∀ k, k < N → g k = if k = a then v else f k) : (tabB N f).setIfInBounds a (.bool v) = tabB N g := by
  apply Array.ext_getElem?
  intro i
  rcases Nat.lt_or_ge i N with h | h
  · rw [tabB_get g h, hg i h]
    by_cases e : a = i
    · subst e
      simp [tabB, h]
    · rw [Array.getElem?_setIfInBounds_ne e, tabB_get f h, if_neg (fun e' => e e'.symm)]
  · rw [Array.getElem?_eq_none (by simp [tabB_size]; exact h), Array.getElem?_eq_none (by rw [tabB_size]; exact h)]
theorem tabB_made (N : Nat) : madeCells #[.bool false] N = tabB N (fun _ => false) := by
  apply Array.ext_getElem?
  intro i
  rcases Nat.lt_or_ge i N with h | h
  · rw [tabB_get _ h]; simp [madeCells, h, Nat.mod_one]
  · rw [Array.getElem?_eq_none (by rw [size_madeCells]; exact h), Array.getElem?_eq_none (by rw [tabB_size]; exact h)]
theorem Blk.tabReadsB {w : World} {g : Nat} {t : TypeId} {N : Nat} {f : Nat → Bool} (h : Blk w g t (tabB N f)) : Reads w 1 (some ⟨g, 0, none⟩) N (((List.range N).map f).map .bool) := by
  have := h.reads N 1 (by rw [tabB_size]; omega)
  have e : (tabB N f).toList = ((List.range N).map f).map .bool := by simp [tabB, Function.comp_def]
  rwa [e] at this
theorem Blk.tabAtB {w : World} {g : Nat} {t : TypeId} {N : Nat} {f : Nat → Bool} (h : Blk w g t (tabB N f)) {k : Nat} (hk : k < N) : w.cell? ⟨g, k, none⟩ = some (.bool (f k)) := (h.cell k).trans (tabB_get f hk)
theorem Blk.tabSetB {w : World} {g : Nat} {t : TypeId} {N : Nat} {f f' : Nat → Bool} (h : Blk w g t (tabB N f)) (a : Nat) (v : Bool) (hg : ∀ k, k < N → f' k = if k = a then v else f k) : Blk (w.setCell ⟨g, a, none⟩ (.bool v)) g t (tabB N f') := by
  have := h.set_ a (.bool v)
  rwa [tabB_set hg] at this

/-! ### moving -/
theorem atI_ways' (cs : List Bool) (W H : Nat) (x y : Int) : atI cs W H x y = false ∨ ∃ X Y : Nat, x = (X : Int) ∧ y = (Y : Int) ∧ X < W ∧ Y < H ∧ atI cs W H x y = pix cs W X Y := by
  by_cases c : 0 ≤ x ∧ x < W ∧ 0 ≤ y ∧ y < H
  · obtain ⟨c1, c2, c3, c4⟩ := c
    obtain ⟨X, rfl⟩ := Int.eq_ofNat_of_zero_le c1
    obtain ⟨Y, rfl⟩ := Int.eq_ofNat_of_zero_le c3
    exact Or.inr ⟨X, Y, rfl, rfl, by omega, by omega, atI_in cs W H X Y (by omega) (by omega)⟩
  · exact Or.inl (atI_out cs W H x y c)
def hitTo (bs : List Bool) (W : Nat) (T : Nat → Nat → Int × Int) : Nat → Nat → Bool
  | 0, _ => false
  | m + 1, k => hitTo bs W T m k || (bs.getD m false && decide (T (m % W) (m / W) = (((k % W : Nat) : Int), ((k / W : Nat) : Int))))
theorem hitTo_iff (bs : List Bool) (W : Nat) (T : Nat → Nat → Int × Int) (k : Nat) : ∀ m, hitTo bs W T m k = true ↔ ∃ i, i < m ∧ bs.getD i false = true ∧ T (i % W) (i / W) = (((k % W : Nat) : Int), ((k / W : Nat) : Int))
  | 0 => by simp [hitTo]
  | m + 1 => by
    simp only [hitTo, Bool.or_eq_true, hitTo_iff bs W T k m, Bool.and_eq_true, decide_eq_true_eq]
    constructor
    · rintro (⟨i, h1, h2⟩ | h)
      · exact ⟨i, by omega, h2⟩
      · exact ⟨m, by omega, h⟩
    · rintro ⟨i, h1, h2⟩
      rcases Nat.lt_or_ge i m with h | h
      · exact Or.inl ⟨i, h, h2⟩
      · obtain rfl : i = m := by omega
        exact Or.inr h2
theorem hitTo_no {bs : List Bool} {W m : Nat} {T : Nat → Nat → Int × Int} (h : bs.getD m false = false) (k : Nat) : hitTo bs W T (m + 1) k = hitTo bs W T m k := by
  simp only [hitTo, h, Bool.false_and, Bool.or_false]
theorem place_parts {W H k : Nat} (hk : k < W * H) : k % W < W ∧ k / W < H ∧ (k / W) * W + k % W = k := by
  have hW : 0 < W := by rcases Nat.eq_zero_or_pos W with h0 | h0; (subst h0; simp at hk); exact h0
  exact ⟨Nat.mod_lt _ hW, Nat.div_lt_of_lt_mul hk, by have := Nat.div_add_mod k W; rw [Nat.mul_comm] at this; exact this⟩
theorem at_parts {W x : Nat} (y : Nat) (hx : x < W) : (y * W + x) % W = x ∧ (y * W + x) / W = y :=
  ⟨by rw [Nat.mul_comm, Nat.mul_add_mod, Nat.mod_eq_of_lt hx], by rw [Nat.mul_comm, Nat.mul_add_div (by omega), Nat.div_eq_of_lt hx, Nat.add_zero]⟩
theorem hitTo_out {bs : List Bool} {W H m : Nat} {T : Nat → Nat → Int × Int} {x y : Int} (hT : T (m % W) (m / W) = (x, y)) (ho : x < 0 ∨ (W : Int) ≤ x ∨ y < 0 ∨ (H : Int) ≤ y) (k : Nat) (hk : k < W * H) : hitTo bs W T (m + 1) k = hitTo bs W T m k := by
  obtain ⟨h1, h2, _⟩ := place_parts hk
  have : ¬ ((x, y) = (((k % W : Nat) : Int), ((k / W : Nat) : Int))) := by
    rw [Prod.mk.injEq]
    generalize k % W = a at h1 ⊢
    generalize k / W = b at h2 ⊢
    omega
  simp only [hitTo, hT, decide_eq_false this, Bool.and_false, Bool.or_false]
theorem hitTo_in {bs : List Bool} {W H m X Y : Nat} {T : Nat → Nat → Int × Int} (h : bs.getD m false = true) (hT : T (m % W) (m / W) = ((X : Int), (Y : Int))) (hX : X < W) (k : Nat) (hk : k < W * H) :
    hitTo bs W T (m + 1) k = if k = Y * W + X then true else hitTo bs W T m k := by
  obtain ⟨h1, h2, h3⟩ := place_parts hk
  obtain ⟨p1, p2⟩ := at_parts Y hX
  simp only [hitTo, hT, h, Bool.true_and]
  by_cases e : k = Y * W + X
  · rw [if_pos e, e, p1, p2]; simp
  · rw [if_neg e]
    have : ¬ (((X : Int), (Y : Int)) = (((k % W : Nat) : Int), ((k / W : Nat) : Int))) := by
      rw [Prod.mk.injEq]
      rintro ⟨a, b⟩
      have a' : X = k % W := by omega
      have b' : Y = k / W := by omega
      rw [a', b', h3] at e
      exact e rfl
    rw [decide_eq_false this, Bool.or_false]
/-- Columns that go down. -/
theorem hit_lean (bs : List Bool) (W H : Nat) (s : Nat → Int) (k : Nat) (hk : k < W * H) :
    hitTo bs W (fun x y => ((x : Int), (y : Int) + s x)) (W * H) k = atI bs W H ((k % W : Nat) : Int) (((k / W : Nat) : Int) - s (k % W)) := by
  obtain ⟨h1, h2, h3⟩ := place_parts hk
  rw [Bool.eq_iff_iff, hitTo_iff]
  constructor
  · rintro ⟨i, hi, hb, hT⟩
    obtain ⟨i1, i2, i3⟩ := place_parts hi
    rw [Prod.mk.injEq] at hT
    have e1 : i % W = k % W := by omega
    rw [e1] at hT
    have e2 : ((k / W : Nat) : Int) - s (k % W) = ((i / W : Nat) : Int) := by omega
    rw [e2, atI_in bs W H _ _ h1 i2]
    unfold pix
    rw [← e1, i3]
    exact hb
  · intro h
    rcases atI_ways' bs W H ((k % W : Nat) : Int) (((k / W : Nat) : Int) - s (k % W)) with e | ⟨X, Y, eX, eY, hX, hY, e⟩
    · rw [e] at h; cases h
    · rw [e] at h
      obtain ⟨p1, p2⟩ := at_parts Y hX
      refine ⟨Y * W + X, place_lt hX hY, h, ?_⟩
      rw [p1, p2]
      have : X = k % W := by omega
      rw [Prod.mk.injEq, this]
      exact ⟨rfl, by omega⟩
/-- Rows that go to the right. -/
theorem hit_slant (bs : List Bool) (W H : Nat) (s : Nat → Int) (k : Nat) (hk : k < W * H) :
    hitTo bs W (fun x y => ((x : Int) + s y, (y : Int))) (W * H) k = atI bs W H (((k % W : Nat) : Int) - s (k / W)) ((k / W : Nat) : Int) := by
  obtain ⟨h1, h2, h3⟩ := place_parts hk
  rw [Bool.eq_iff_iff, hitTo_iff]
  constructor
  · rintro ⟨i, hi, hb, hT⟩
    obtain ⟨i1, i2, i3⟩ := place_parts hi
    rw [Prod.mk.injEq] at hT
    have e1 : i / W = k / W := by omega
    rw [e1] at hT
    have e2 : ((k % W : Nat) : Int) - s (k / W) = ((i % W : Nat) : Int) := by omega
    rw [e2, atI_in bs W H _ _ i1 h2]
    unfold pix
    rw [← e1, i3]
    exact hb
  · intro h
    rcases atI_ways' bs W H (((k % W : Nat) : Int) - s (k / W)) ((k / W : Nat) : Int) with e | ⟨X, Y, eX, eY, hX, hY, e⟩
    · rw [e] at h; cases h
    · rw [e] at h
      obtain ⟨p1, p2⟩ := at_parts Y hX
      refine ⟨Y * W + X, place_lt hX hY, h, ?_⟩
      rw [p1, p2]
      have : Y = k / W := by omega
      rw [Prod.mk.injEq, this]
      exact ⟨by omega, rfl⟩

end Go.Proofs.YtkhajhcfplicpaaDoor


/-! The plain law of counts and of bounds. -/
namespace Go.Proofs.YtkhajhcfplicpaaDoor
open Go.RowKit

/-! ### counts -/
theorem b1_le (b : Bool) : b1 b ≤ 1 := by unfold b1; split <;> omega
def rowN (bs : List Bool) (W y : Nat) : Nat := sumN (fun x => b1 (pix bs W x y)) W
def colN (bs : List Bool) (W H x : Nat) : Nat := sumN (fun y => b1 (pix bs W x y)) H
def cntBy (bs : List Bool) (num : Nat → Nat) (m k : Nat) : Nat := sumN (fun i => b1 (bs.getD i false && decide (num i = k))) m
theorem cntBy_succ (bs : List Bool) (num : Nat → Nat) (m k : Nat) : cntBy bs num (m + 1) k = cntBy bs num m k + b1 (bs.getD m false && decide (num m = k)) := rfl
theorem cntBy_le (bs : List Bool) (num : Nat → Nat) (m k : Nat) : cntBy bs num m k ≤ m := by
  have := sumN_le (f := fun i => b1 (bs.getD i false && decide (num i = k))) (c := 1) (fun i => b1_le _) m
  simpa [cntBy] using this
theorem rowN_le (bs : List Bool) (W y : Nat) : rowN bs W y ≤ W := by
  have := sumN_le (f := fun x => b1 (pix bs W x y)) (c := 1) (fun i => b1_le _) W
  simpa [rowN] using this
theorem colN_le (bs : List Bool) (W H x : Nat) : colN bs W H x ≤ H := by
  have := sumN_le (f := fun y => b1 (pix bs W x y)) (c := 1) (fun i => b1_le _) H
  simpa [colN] using this
theorem sumN_pick (f : Nat → Nat) (n k : Nat) : sumN (fun y => if y = k then f y else 0) n = if k < n then f k else 0 := by
  induction n with
  | zero => simp [sumN]
  | succ n ih =>
    simp only [sumN, ih]
    by_cases h : n = k
    · subst h
      rw [if_neg (by omega), if_pos rfl, if_pos (by omega)]; omega
    · rw [if_neg h]
      by_cases h2 : k < n
      · rw [if_pos h2, if_pos (by omega)]; omega
      · rw [if_neg h2, if_neg (by omega)]
theorem cntBy_rows (bs : List Bool) (W H k : Nat) (hk : k < H) : cntBy bs (fun i => i / W) (W * H) k = rowN bs W k := by
  unfold cntBy
  rw [Nat.mul_comm, sumN_flat]
  have e : ∀ y, y < H → sumN (fun x => b1 (bs.getD (y * W + x) false && decide ((y * W + x) / W = k))) W = if y = k then rowN bs W y else 0 := by
    intro y _
    by_cases h : y = k
    · rw [if_pos h]
      refine sumN_congr fun x hx => ?_
      rw [(at_parts y hx).2, decide_eq_true h, Bool.and_true]
      rfl
    · rw [if_neg h]
      rw [← sumN_zero W]
      refine sumN_congr fun x hx => ?_
      rw [(at_parts y hx).2, decide_eq_false h, Bool.and_false]
      rfl
  rw [sumN_congr e, sumN_pick, if_pos hk]
theorem cntBy_cols (bs : List Bool) (W H k : Nat) (hk : k < W) : cntBy bs (fun i => i % W) (W * H) k = colN bs W H k := by
  unfold cntBy
  rw [Nat.mul_comm, sumN_flat]
  refine sumN_congr fun y _ => ?_
  have e : ∀ x, x < W → b1 (bs.getD (y * W + x) false && decide ((y * W + x) % W = k)) = if x = k then b1 (pix bs W x y) else 0 := by
    intro x hx
    rw [(at_parts y hx).1]
    by_cases h : x = k
    · rw [if_pos h, decide_eq_true h, Bool.and_true]; rfl
    · rw [if_neg h, decide_eq_false h, Bool.and_false]; rfl
  rw [sumN_congr e, sumN_pick (fun x => b1 (pix bs W x y)), if_pos hk]
/-- Ink in a box. -/
def inkN (bs : List Bool) (W X Y BW BH : Nat) : Nat := sumN (fun j => sumN (fun i => b1 (pix bs W (X + i) (Y + j))) BW) BH
theorem ink_row (bs : List Bool) (W y : Nat) : inkN bs W 0 y W 1 = rowN bs W y := by
  unfold inkN rowN
  simp [sumN]
theorem ink_col (bs : List Bool) (W H x : Nat) : inkN bs W x 0 1 H = colN bs W H x := by
  unfold inkN colN
  simp [sumN]
theorem ink_grid (BW BH : Nat) (f : Nat → Nat → Bool) : sumN (fun i => b1 ((grid BW BH f).getD i false)) (BW * BH) = sumN (fun j => sumN (fun i => b1 (f i j)) BW) BH := by
  have hg : ∀ i, i < BW * BH → b1 ((grid BW BH f).getD i false) = b1 (f (i % BW) (i / BW)) := fun i hi => by rw [List.getD, grid_at _ _ _ _ hi]; rfl
  rw [sumN_congr hg, Nat.mul_comm, sumN_flat]
  refine sumN_congr fun y _ => sumN_congr fun x hx => ?_
  rw [(at_parts y hx).1, (at_parts y hx).2]
theorem sumN_pos (f : Nat → Nat) : ∀ n, 0 < sumN f n ↔ ∃ i, i < n ∧ 0 < f i
  | 0 => by simp [sumN]
  | n + 1 => by
    have ih := sumN_pos f n
    simp only [sumN]
    constructor
    · intro h
      by_cases h2 : 0 < f n
      · exact ⟨n, by omega, h2⟩
      · obtain ⟨i, hi, h3⟩ := ih.1 (by omega)
        exact ⟨i, by omega, h3⟩
    · rintro ⟨i, hi, h3⟩
      by_cases h2 : i = n
      · subst h2; omega
      · have := ih.2 ⟨i, by omega, h3⟩; omega
theorem b1_pos (b : Bool) : 0 < b1 b ↔ b = true := by cases b <;> simp [b1]
theorem rowN_pos (bs : List Bool) (W y : Nat) : 0 < rowN bs W y ↔ ∃ x, x < W ∧ pix bs W x y = true := by
  unfold rowN; rw [sumN_pos]; simp only [b1_pos]
theorem colN_pos (bs : List Bool) (W H x : Nat) : 0 < colN bs W H x ↔ ∃ y, y < H ∧ pix bs W x y = true := by
  unfold colN; rw [sumN_pos]; simp only [b1_pos]

/-! ### ends -/
def Ends (f : Nat → Nat) (N x r : Nat) : Prop := (x < N ∧ 0 < f x ∧ ∀ j, j < x → f j = 0) ∧ (r < N ∧ 0 < f r ∧ ∀ j, r < j → j < N → f j = 0)
def NoEnds (f : Nat → Nat) (N : Nat) : Prop := ∀ j, j < N → f j = 0
theorem Ends.same {f : Nat → Nat} {N x r x' r' : Nat} (h : Ends f N x r) (k : Ends f N x' r') : x = x' ∧ r = r' := by
  obtain ⟨⟨h1, h2, h3⟩, h4, h5, h6⟩ := h
  obtain ⟨⟨k1, k2, k3⟩, k4, k5, k6⟩ := k
  constructor
  · rcases Nat.lt_trichotomy x x' with c | c | c
    · have := k3 x c; omega
    · exact c
    · have := h3 x' c; omega
  · rcases Nat.lt_trichotomy r r' with c | c | c
    · have := h6 r' c k4; omega
    · exact c
    · have := k6 r c h4; omega
theorem Ends.not {f : Nat → Nat} {N x r : Nat} (h : Ends f N x r) (k : NoEnds f N) : False := by
  have := k x h.1.1
  have := h.1.2.1
  omega

/-! ### bounds -/
def BoundsIs (bs : List Bool) (W H : Nat) (is : Bool) (X Y BW BH : Int) : Prop :=
  (is = false ∧ NoEnds (colN bs W H) W ∧ X = 0 ∧ Y = 0 ∧ BW = 0 ∧ BH = 0) ∨
  (is = true ∧ ∃ l r t b : Nat, Ends (colN bs W H) W l r ∧ Ends (rowN bs W) H t b ∧ X = l ∧ Y = t ∧ BW = (r : Int) - l + 1 ∧ BH = (b : Int) - t + 1)
theorem BoundsIs.same {bs : List Bool} {W H : Nat} {is is' : Bool} {X Y BW BH X' Y' BW' BH' : Int} (h : BoundsIs bs W H is X Y BW BH) (k : BoundsIs bs W H is' X' Y' BW' BH') : is = is' ∧ X = X' ∧ Y = Y' ∧ BW = BW' ∧ BH = BH' := by
  rcases h with ⟨h1, h2, h3, h4, h5, h6⟩ | ⟨h1, l, r, t, b, h2, h3, h4, h5, h6, h7⟩ <;> rcases k with ⟨k1, k2, k3, k4, k5, k6⟩ | ⟨k1, l', r', t', b', k2, k3, k4, k5, k6, k7⟩
  · exact ⟨by rw [h1, k1], by omega, by omega, by omega, by omega⟩
  · exact (k2.not h2).elim
  · exact (h2.not k2).elim
  · obtain ⟨e1, e2⟩ := h2.same k2
    obtain ⟨e3, e4⟩ := h3.same k3
    exact ⟨by rw [h1, k1], by omega, by omega, by omega, by omega⟩
theorem noEnds_rows {bs : List Bool} {W H : Nat} (h : NoEnds (rowN bs W) H) : NoEnds (colN bs W H) W := by
  intro x hx
  rcases Nat.eq_zero_or_pos (colN bs W H x) with e | e
  · exact e
  · obtain ⟨y, hy, hp⟩ := (colN_pos bs W H x).1 e
    have := h y hy
    have := (rowN_pos bs W y).2 ⟨x, hx, hp⟩
    omega
theorem BoundsIs.bd {bs : List Bool} {W H : Nat} {is : Bool} {X Y BW BH : Int} (h : BoundsIs bs W H is X Y BW BH) : (0 ≤ X ∧ X ≤ W) ∧ (0 ≤ Y ∧ Y ≤ H) ∧ (0 ≤ BW ∧ BW ≤ W) ∧ (0 ≤ BH ∧ BH ≤ H) ∧ (is = true → X + BW ≤ W ∧ Y + BH ≤ H ∧ 1 ≤ BW ∧ 1 ≤ BH) := by
  rcases h with ⟨h1, h2, h3, h4, h5, h6⟩ | ⟨h1, l, r, t, b, h2, h3, h4, h5, h6, h7⟩
  · refine ⟨by omega, by omega, by omega, by omega, fun h => ?_⟩
    rw [h1] at h; cases h
  · have a1 := h2.1.1
    have a2 := h2.2.1
    have a3 := h3.1.1
    have a4 := h3.2.1
    have a5 : l ≤ r := by
      rcases Nat.lt_or_ge r l with c | c
      · have := h2.1.2.2 r c; have := h2.2.2.1; omega
      · exact c
    have a6 : t ≤ b := by
      rcases Nat.lt_or_ge b t with c | c
      · have := h3.1.2.2 b c; have := h3.2.2.1; omega
      · exact c
    exact ⟨by omega, by omega, by omega, by omega, fun _ => by omega⟩

/-- The bounds so far. -/
def BInv (bs : List Bool) (W H m : Nat) (l t r b : Int) : Prop :=
  ((∀ i, i < m → bs.getD i false = false) ∧ l = W ∧ t = H ∧ r = -1 ∧ b = -1) ∨
  ((∃ i, i < m ∧ bs.getD i false = true ∧ l = ((i % W : Nat) : Int)) ∧ (∃ i, i < m ∧ bs.getD i false = true ∧ t = ((i / W : Nat) : Int)) ∧ (∃ i, i < m ∧ bs.getD i false = true ∧ r = ((i % W : Nat) : Int)) ∧ (∃ i, i < m ∧ bs.getD i false = true ∧ b = ((i / W : Nat) : Int)) ∧
    ∀ i, i < m → bs.getD i false = true → l ≤ ((i % W : Nat) : Int) ∧ ((i % W : Nat) : Int) ≤ r ∧ t ≤ ((i / W : Nat) : Int) ∧ ((i / W : Nat) : Int) ≤ b)
theorem BInv.start (bs : List Bool) (W H : Nat) : BInv bs W H 0 W H (-1) (-1) := Or.inl ⟨fun i hi => by omega, rfl, rfl, rfl, rfl⟩
theorem BInv.no {bs : List Bool} {W H m : Nat} {l t r b : Int} (h : BInv bs W H m l t r b) (hm : bs.getD m false = false) : BInv bs W H (m + 1) l t r b := by
  rcases h with ⟨h1, h2⟩ | ⟨⟨i1, a1, b1', c1⟩, ⟨i2, a2, b2, c2⟩, ⟨i3, a3, b3, c3⟩, ⟨i4, a4, b4, c4⟩, h5⟩
  · refine Or.inl ⟨fun i hi => ?_, h2⟩
    rcases Nat.lt_or_ge i m with c | c
    · exact h1 i c
    · obtain rfl : i = m := by omega
      exact hm
  · refine Or.inr ⟨⟨i1, by omega, b1', c1⟩, ⟨i2, by omega, b2, c2⟩, ⟨i3, by omega, b3, c3⟩, ⟨i4, by omega, b4, c4⟩, fun i hi hb => ?_⟩
    rcases Nat.lt_or_ge i m with c | c
    · exact h5 i c hb
    · obtain rfl : i = m := by omega
      rw [hm] at hb; cases hb
theorem BInv.yes {bs : List Bool} {W H m : Nat} {l t r b : Int} (h : BInv bs W H m l t r b) (hm : bs.getD m false = true) (hx : m % W < W) (hy : m / W < H) {l' t' r' b' : Int}
    (el : l' = if ((m % W : Nat) : Int) < l then ((m % W : Nat) : Int) else l) (et : t' = if ((m / W : Nat) : Int) < t then ((m / W : Nat) : Int) else t)
    (er : r' = if r < ((m % W : Nat) : Int) then ((m % W : Nat) : Int) else r) (eb : b' = if b < ((m / W : Nat) : Int) then ((m / W : Nat) : Int) else b) : BInv bs W H (m + 1) l' t' r' b' := by
  obtain ⟨x, hx'⟩ : ∃ x, x = m % W := ⟨_, rfl⟩
  obtain ⟨y, hy'⟩ : ∃ y, y = m / W := ⟨_, rfl⟩
  rw [← hx'] at el er hx
  rw [← hy'] at et eb hy
  rcases h with ⟨h1, rfl, rfl, rfl, rfl⟩ | ⟨⟨i1, a1, b1', c1⟩, ⟨i2, a2, b2, c2⟩, ⟨i3, a3, b3, c3⟩, ⟨i4, a4, b4, c4⟩, h5⟩
  · rw [if_pos (by omega)] at el et er eb
    refine Or.inr ⟨⟨m, by omega, hm, by rw [← hx']; exact el⟩, ⟨m, by omega, hm, by rw [← hy']; exact et⟩, ⟨m, by omega, hm, by rw [← hx']; exact er⟩, ⟨m, by omega, hm, by rw [← hy']; exact eb⟩, fun i hi hb => ?_⟩
    rcases Nat.lt_or_ge i m with c | c
    · rw [h1 i c] at hb; cases hb
    · obtain rfl : i = m := by omega
      rw [← hx', ← hy']; omega
  · refine Or.inr ⟨?_, ?_, ?_, ?_, fun i hi hb => ?_⟩
    · by_cases c : (x : Int) < l
      · rw [if_pos c] at el; exact ⟨m, by omega, hm, by rw [← hx']; exact el⟩
      · rw [if_neg c] at el; exact ⟨i1, by omega, b1', by rw [el]; exact c1⟩
    · by_cases c : (y : Int) < t
      · rw [if_pos c] at et; exact ⟨m, by omega, hm, by rw [← hy']; exact et⟩
      · rw [if_neg c] at et; exact ⟨i2, by omega, b2, by rw [et]; exact c2⟩
    · by_cases c : r < (x : Int)
      · rw [if_pos c] at er; exact ⟨m, by omega, hm, by rw [← hx']; exact er⟩
      · rw [if_neg c] at er; exact ⟨i3, by omega, b3, by rw [er]; exact c3⟩
    · by_cases c : b < (y : Int)
      · rw [if_pos c] at eb; exact ⟨m, by omega, hm, by rw [← hy']; exact eb⟩
      · rw [if_neg c] at eb; exact ⟨i4, by omega, b4, by rw [eb]; exact c4⟩
    · have key : (l' ≤ l ∧ l' ≤ x) ∧ (t' ≤ t ∧ t' ≤ y) ∧ (r ≤ r' ∧ (x : Int) ≤ r') ∧ (b ≤ b' ∧ (y : Int) ≤ b') := by
        refine ⟨?_, ?_, ?_, ?_⟩
        · split at el <;> omega
        · split at et <;> omega
        · split at er <;> omega
        · split at eb <;> omega
      rcases Nat.lt_or_ge i m with c | c
      · have := h5 i c hb; omega
      · obtain rfl : i = m := by omega
        rw [← hx', ← hy']; omega
theorem BInv.bd {bs : List Bool} {W H m : Nat} {l t r b : Int} (h : BInv bs W H m l t r b) (hm : m ≤ W * H) : (0 ≤ l ∧ l ≤ W) ∧ (0 ≤ t ∧ t ≤ H) ∧ (-1 ≤ r ∧ r < W) ∧ (-1 ≤ b ∧ b < H) := by
  have hp : ∀ i, i < m → i % W < W ∧ i / W < H := fun i hi => by
    obtain ⟨a, b, _⟩ := place_parts (show i < W * H by omega)
    exact ⟨a, b⟩
  rcases h with ⟨h1, rfl, rfl, rfl, rfl⟩ | ⟨⟨i1, a1, b1', c1⟩, ⟨i2, a2, b2, c2⟩, ⟨i3, a3, b3, c3⟩, ⟨i4, a4, b4, c4⟩, h5⟩
  · omega
  · have p1 := (hp i1 a1).1; have p2 := (hp i2 a2).2; have p3 := (hp i3 a3).1; have p4 := (hp i4 a4).2
    clear h5 hp
    generalize i1 % W = x1 at c1 p1
    generalize i2 / W = y2 at c2 p2
    generalize i3 % W = x3 at c3 p3
    generalize i4 / W = y4 at c4 p4
    omega
theorem pix_place {bs : List Bool} {W H i : Nat} (hi : i < W * H) : pix bs W (i % W) (i / W) = bs.getD i false := by
  unfold pix; rw [(place_parts hi).2.2]
/-- What comes out. -/
theorem BInv.done {bs : List Bool} {W H : Nat} {l t r b : Int} (h : BInv bs W H (W * H) l t r b) :
    (r < 0 ∧ BoundsIs bs W H false 0 0 0 0) ∨ (¬ r < 0 ∧ BoundsIs bs W H true l t (r - l + 1) (b - t + 1)) := by
  rcases h with ⟨h1, rfl, rfl, rfl, rfl⟩ | ⟨⟨i1, a1, b1', c1⟩, ⟨i2, a2, b2, c2⟩, ⟨i3, a3, b3, c3⟩, ⟨i4, a4, b4, c4⟩, h5⟩
  · refine Or.inl ⟨by omega, Or.inl ⟨rfl, fun x hx => ?_, rfl, rfl, rfl, rfl⟩⟩
    rcases Nat.eq_zero_or_pos (colN bs W H x) with e | e
    · exact e
    · obtain ⟨y, hy, hp⟩ := (colN_pos bs W H x).1 e
      have := h1 (y * W + x) (place_lt hx hy)
      unfold pix at hp
      rw [this] at hp; cases hp
  · have q1 := place_parts a1; have q2 := place_parts a2; have q3 := place_parts a3; have q4 := place_parts a4
    have all : ∀ x y, x < W → y < H → pix bs W x y = true → l ≤ x ∧ (x : Int) ≤ r ∧ t ≤ y ∧ (y : Int) ≤ b := fun x y hx hy hp => by
      have := h5 (y * W + x) (place_lt hx hy) hp
      rwa [(at_parts y hx).1, (at_parts y hx).2] at this
    refine Or.inr ⟨by omega, Or.inr ⟨rfl, i1 % W, i3 % W, i2 / W, i4 / W, ⟨⟨q1.1, (colN_pos _ _ _ _).2 ⟨i1 / W, q1.2.1, by rw [pix_place a1]; exact b1'⟩, fun j hj => ?_⟩, q3.1, (colN_pos _ _ _ _).2 ⟨i3 / W, q3.2.1, by rw [pix_place a3]; exact b3⟩, fun j hj hj2 => ?_⟩,
      ⟨⟨q2.2.1, (rowN_pos _ _ _).2 ⟨i2 % W, q2.1, by rw [pix_place a2]; exact b2⟩, fun j hj => ?_⟩, q4.2.1, (rowN_pos _ _ _).2 ⟨i4 % W, q4.1, by rw [pix_place a4]; exact b4⟩, fun j hj hj2 => ?_⟩, c1, c2, by rw [c1, c3], by rw [c2, c4]⟩⟩
    · rcases Nat.eq_zero_or_pos (colN bs W H j) with e | e
      · exact e
      · obtain ⟨y, hy, hp⟩ := (colN_pos bs W H j).1 e
        have := all j y (by omega) hy hp; omega
    · rcases Nat.eq_zero_or_pos (colN bs W H j) with e | e
      · exact e
      · obtain ⟨y, hy, hp⟩ := (colN_pos bs W H j).1 e
        have := all j y (by omega) hy hp; omega
    · rcases Nat.eq_zero_or_pos (rowN bs W j) with e | e
      · exact e
      · obtain ⟨x, hx, hp⟩ := (rowN_pos bs W j).1 e
        have := all x j hx (by omega) hp; omega
    · rcases Nat.eq_zero_or_pos (rowN bs W j) with e | e
      · exact e
      · obtain ⟨x, hx, hp⟩ := (rowN_pos bs W j).1 e
        have := all x j hx (by omega) hp; omega

/-! ### values -/
def cntV (zs : List Int) (m k : Nat) : Nat := sumN (fun i => b1 (decide (valOf zs i = (k : Int)))) m
theorem cntV_succ (zs : List Int) (m k : Nat) : cntV zs (m + 1) k = cntV zs m k + b1 (decide (valOf zs m = (k : Int))) := rfl
theorem cntV_le (zs : List Int) (m k : Nat) : cntV zs m k ≤ m := by
  have := sumN_le (f := fun i => b1 (decide (valOf zs i = (k : Int)))) (c := 1) (fun i => b1_le _) m
  simpa [cntV] using this

end Go.Proofs.YtkhajhcfplicpaaDoor


/-! page.ToBits, page.ToGray, and the function values of the law on counts. -/
namespace Go.Proofs.YtkhajhcfplicpaaDoor
open Go.RowKit

def lvlErr (W H : Int) (k : Nat) (n : Int) : Int := firstNZ [pageErr W H k, whenI (!inB n 0 256) 3]
theorem lvlErr_zero {W H : Int} {k : Nat} {n : Int} (h : lvlErr W H k n = 0) : pageErr W H k = 0 ∧ (0 ≤ n ∧ n ≤ 256) := by
  unfold lvlErr firstNZ at h
  split at h
  · rename_i h0
    refine ⟨h0, ?_⟩
    cases hi : inB n 0 256
    · rw [hi] at h; simp [firstNZ, whenI] at h
    · exact inB_true.1 hi
  · contradiction
def bitF (zs : List Int) (W : Nat) (level : Int) (x y : Nat) : Bool := decide (vix zs W x y < level)
def grayF (bs : List Bool) (W : Nat) (x y : Nat) : Int := if pix bs W x y then 0 else 255

/-! ### ToGray -/
end Go.Proofs.YtkhajhcfplicpaaDoor


/-! page.counted, Rows, Columns, Histogram. -/
namespace Go.Proofs.YtkhajhcfplicpaaDoor
open Go.RowKit

/-- A table of numbers if the error is 0, nothing else. -/
def TabRes (w : World) (err : Int) (N : Nat) (f : Nat → Int) (P : Option Addr) (m : Nat) : Prop :=
  (err = 0 → m = N ∧ Reads w 1 P m ((tabL m f).map (.int .i64))) ∧ (err ≠ 0 → m = 0 ∧ P = none)
theorem TabRes.bl {w w' : World} {err : Int} {N : Nat} {f : Nat → Int} {P : Option Addr} {m : Nat} (h : TabRes w err N f P m) (hb : Bl w w') : TabRes w' err N f P m :=
  ⟨fun e => ⟨(h.1 e).1, (h.1 e).2.bl hb⟩, h.2⟩
def rowI (bs : List Bool) (W k : Nat) : Int := ((rowN bs W k : Nat) : Int)
def colI (bs : List Bool) (W H k : Nat) : Int := ((colN bs W H k : Nat) : Int)
def valI (zs : List Int) (n k : Nat) : Int := ((cntV zs n k : Nat) : Int)

set_option maxRecDepth 100000 in
set_option maxHeartbeats 2000000 in
theorem counted_any (W H : Nat) (A : Option Addr) (ac : Nat) (bs : List Bool) (many : Nat) (num : Nat → Nat) (kf : FuncId) (cap : Array Value) (w : World) (hA : Reads w 1 A (W * H) (bs.map .bool)) (hbd : W * H ≤ 1048576) (hmany : many ≤ 4000)
    (hent : ∀ args w, (callFunc kf args).run Tryd.prog w = .ok (.enter kf args) w)
    (hnum : ∀ wx (i : Nat), Bl w wx → i < W * H → Calls Tryd.prog kf (#[.int .i64 i] ++ cap) wx fun e w' => e = .returned (.int .i64 ((num i : Nat) : Int)) ∧ Bl wx w') (hlt : ∀ i, i < W * H → num i < many) :
    Calls Tryd.prog 249 #[.agg #[.int .i64 W, .int .i64 H, .slice A (W * H) ac], .int .i64 many, .func (.func kf) #[] cap] w fun e w' =>
      ∃ g, e = .returned (.slice (some ⟨g, 0, none⟩) many many) ∧ w.heap.size ≤ g ∧ Blk w' g 3 (tabI many fun k => ((cntBy bs num (W * H) k : Nat) : Int)) ∧ Bl w w' := by
  let w2 := (w).alloc (.cells #[.int .i64 W, .int .i64 H, .slice A (W * H) ac] 24)
  have w2b : Bl w w2 := (Bl.refl w).alloc _
  have w21 : Blk w2 (w.heap.size) 24 #[.int .i64 W, .int .i64 H, .slice A (W * H) ac] := by
    have h0 := Blk.new (w) 24 #[.int .i64 W, .int .i64 H, .slice A (W * H) ac]
    exact h0
  have k1 := w21.all3
  have lw2 : w2.heap.size = w.heap.size + 1 := by simp [w2]
  have hmk := run_make_row' (P := Tryd.prog) 83 3 (.int .i64 0) 8 Tryd.underlying83 info_int rfl .i64 .i64 many (by omega) (by omega)
  rw [tabI_made] at hmk
  have HA := Lib.hid hA; have Hnum := Lib.hid hnum; have Hlt := Lib.hid hlt
  have start : Blk (w2.alloc (.cells (tabI many fun _ => 0) 3)) (w.heap.size + 1) 3 (tabI many fun k => ((cntBy bs num 0 k : Nat) : Int)) := by
    have := Blk.new w2 3 (tabI many fun _ => 0)
    rw [lw2] at this
    exact this
  have Start := Lib.hid start
  clear hA hnum hlt start
  go_enter Tryd.func249, Tryd.ntmps249
  go_wp2_with fail
  go_loopw [15] (fun u wr => ∃ i : Nat, i ≤ W * H ∧ u = .int .i64 i ∧ Bl w2 wr ∧ Blk wr (w.heap.size + 1) 3 (tabI many fun k => ((cntBy bs num i k : Nat) : Int))) (fun u _ => W * H - (intOf u).toNat)
  case atStart => exact ⟨0, Nat.zero_le _, rfl, (Bl.refl _).alloc _, Start.out⟩
  case round =>
    clear k1
    obtain ⟨i, hi, rfl, hbr, hbo⟩ := hrel
    have k1 := (w21.bl hbr).all3
    by_cases hlt : i < W * H
    · have il : (i : Int) < (W : Int) * (H : Int) := by have := Int.natCast_mul W H; omega
      obtain ⟨ad, ua, eA, hu, hca⟩ := (HA.out.bl (w2b.trans hbr)).at_ hlt
      have hua : ua = .bool (bs.getD i false) := by
        simp only [List.getElem?_map, Option.map_eq_some_iff] at hu
        obtain ⟨b, hb1, hb2⟩ := hu
        rw [← hb2, List.getD, hb1]; rfl
      clear hu
      subst hua eA
      have hst := fun k => cntBy_succ bs num i k
      have hle := fun k => cntBy_le bs num i k
      have hn := Hlt.out i hlt
      have hcall := fun wx h => Hnum.out wx i (w2b.trans h) hlt
      obtain ⟨va, hva⟩ : ∃ v, v = bs.getD i false := ⟨_, rfl⟩
      obtain ⟨a, ha⟩ : ∃ a, a = num i := ⟨_, rfl⟩
      rw [← ha] at hn
      simp only [← ha] at hcall hst
      simp only [← hva] at hst hca
      have Hst := Lib.hid hst; have Hle := Lib.hid hle; have Hcall := Lib.hid hcall
      clear hst hle hcall hva ha
      cases va
      · have hsame : tabI many (fun k => ((cntBy bs num i k : Nat) : Int)) = tabI many (fun k => ((cntBy bs num (i + 1) k : Nat) : Int)) :=
          tabI_congr fun k _ => by rw [Hst.out k]; simp [b1]
        rw [hsame] at hbo
        clear hsame
        go_wp2_with fail
        exact ⟨⟨i + 1, hlt, by go_num, hbr, hbo⟩, by simp [intOf]; omega⟩
      · go_wp2_with fail
        refine (Hcall.out _ hbr).mono ?_
        rintro e w4 ⟨rfl, hb4⟩
        have hbr4 := hbr.trans hb4
        have hbo4 := hbo.bl hb4
        have kc := hbo4.tabAt hn
        have kf := hbo4.frozen a
        have hset := hbo4.tabSet (f' := fun k => ((cntBy bs num (i + 1) k : Nat) : Int)) a (((cntBy bs num i a : Nat) : Int) + 1) (fun k hk => by
          rw [Hst.out k]
          by_cases e : k = a
          · subst e; simp [b1]
          · have : ¬ (a = k) := fun h => e h.symm
            simp [e, this, b1])
        have hcb := Hle.out a
        obtain ⟨c, hc⟩ : ∃ c, c = cntBy bs num i a := ⟨_, rfl⟩
        rw [← hc] at kc hset hcb
        have Hset := Lib.hid hset
        clear hset hc k1
        go_wp2_with fail
        exact ⟨⟨i + 1, hlt, by go_num, hbr4.setCell (by simp; omega) _, Hset.out⟩, by simp [intOf]; omega⟩
    · obtain rfl : i = W * H := by omega
      go_wp2_with fail
      go_ret
      exact ⟨_, rfl, by omega, hbo, w2b.trans hbr⟩

set_option maxHeartbeats 400000 in
theorem columns1_any (p W : Nat) (H : Int) (v : Value) (i : Nat) (w : World) (hp : Blk w p 24 #[.int .i64 W, .int .i64 H, v]) (hW : 1 ≤ W ∧ W ≤ 4000) (hi : i ≤ 1048576) :
    Calls Tryd.prog 250 #[.int .i64 i, .pointer (some ⟨p, 0, none⟩)] w fun e w' => e = .returned (.int .i64 ((i % W : Nat) : Int)) ∧ Bl w w' := by
  have kp := hp.all3
  have hWp : ¬ (W = 0) := by omega
  obtain ⟨q, hq⟩ : ∃ q, q = i % W := ⟨_, rfl⟩
  have e1 : (i : Int) % (W : Int) = (q : Int) := by rw [hq]; simp
  have e2 := hq.symm
  have hqb : q ≤ i := by rw [hq]; first | exact Nat.div_le_self _ _ | exact Nat.mod_le _ _
  rw [← hq]
  clear hq
  go_enter Tryd.func250, Tryd.ntmps250
  go_wp2_with fail
  go_ret
  exact ⟨by first | rfl | exact ret_int e1, Bl.refl _⟩
set_option maxRecDepth 100000 in
set_option maxHeartbeats 1000000 in
theorem columns_any (W H : Int) (A : Option Addr) (an ac : Nat) (bs : List Bool) (w : World) (hA : Reads w 1 A an (bs.map .bool)) :
    Calls Tryd.prog 186 #[.agg #[.int .i64 W, .int .i64 H, .slice A an ac]] w fun e w' =>
      ∃ P m c, e = .returned (.tuple #[.slice P m c, .int .i64 (pageErr W H an)]) ∧ TabRes w' (pageErr W H an) W.toNat (colI bs W.toNat H.toNat) P m ∧ Bl w w' := by
  let w2 := (w).alloc (.cells #[.int .i64 W, .int .i64 H, .slice A an ac] 24)
  have w2b : Bl w w2 := (Bl.refl w).alloc _
  have w21 : Blk w2 (w.heap.size) 24 #[.int .i64 W, .int .i64 H, .slice A an ac] := by
    have h0 := Blk.new (w) 24 #[.int .i64 W, .int .i64 H, .slice A an ac]
    exact h0
  have k1 := w21.all3
  by_cases hp : pageErr W H an = 0
  · have hz := sizeErr_zero (pageErr_zero hp).1
    have Hp := Lib.hid hp
    obtain ⟨W, H, rfl, rfl, rfl, u1, u2, u3⟩ := page_nat hp
    have hW : 1 ≤ W ∧ W ≤ 4000 := by omega
    have HA := Lib.hid (hA.bl w2b)
    clear hz hA
    have ent := enters Tryd.func250 (by kernel_rfl) rfl
    go_enter Tryd.func186, Tryd.ntmps186
    go_wp2_with fail
    refine (checkBits_any _ _ _ _ _ _).mono ?_
    rintro e w3 ⟨rfl, hb3⟩
    have k3 := (w21.bl hb3).all3
    clear k1
    go_wp2_with fail
    refine (counted_any W H A ac bs W (fun i => i % W) 250 #[.pointer (some ⟨w.heap.size, 0, none⟩)] _ (HA.out.bl hb3) u3 (by omega) ent
      (fun wx i hb hi => columns1_any _ W H _ i wx ((w21.bl hb3).bl hb) hW (by omega)) (fun i hi => (place_parts hi).1)).mono ?_
    rintro e w4 ⟨g, rfl, hg, hbk, hb4⟩
    have e : tabI W (fun k => ((cntBy bs (fun i => i % W) (W * H) k : Nat) : Int)) = tabI W (colI bs W H) := tabI_congr fun k hk => by rw [cntBy_cols bs W H k hk]; rfl
    rw [e] at hbk
    have hp := Hp.out
    go_wp2_with fail
    refine bodyPost_ret (v := .tuple #[.slice (some ⟨g, 0, none⟩) W W, .int .i64 0]) (by simp [results, Tryd.results186, go_sem]) rfl ⟨_, _, _, by rw [hp], ⟨fun _ => ⟨by simp, ?_⟩, fun h => absurd hp h⟩, (w2b.trans hb3).trans hb4⟩
    simpa using hbk.tabReads
  · have hq : (pageErr W H an != 0) = true := by simp [hp]
    have Hp := Lib.hid hp
    clear hp
    go_enter Tryd.func186, Tryd.ntmps186
    go_wp2_with fail
    refine (checkBits_any _ _ _ _ _ _).mono ?_
    rintro e w3 ⟨rfl, hb3⟩
    go_wp2_with fail
    refine bodyPost_ret (v := .tuple #[.slice none 0 0, .int .i64 (pageErr W H an)]) (by simp [results, Tryd.results186, go_sem]) rfl ⟨_, _, _, rfl, ⟨fun h => absurd h Hp.out, fun _ => ⟨rfl, rfl⟩⟩, w2b.trans hb3⟩

/-! ### Histogram -/
end Go.Proofs.YtkhajhcfplicpaaDoor


/-! bedref2.InkOf, RowsOf, ColumnsOf, Ends, BoundsOf. -/
namespace Go.Proofs.YtkhajhcfplicpaaDoor
open Go.RowKit

set_option maxRecDepth 100000 in
set_option maxHeartbeats 4000000 in
theorem inkOf_any (W H X Y BW BH : Nat) (A : Option Addr) (ac : Nat) (bs : List Bool) (w : World) (hA : Reads w 1 A (W * H) (bs.map .bool)) (hW : W ≤ 4000) (hH : H ≤ 4000) (hX : X + BW ≤ W) (hY : Y + BH ≤ H) :
    Calls Tryd.prog 237 #[.agg #[.int .i64 W, .int .i64 H, .slice A (W * H) ac], .agg #[.int .i64 X, .int .i64 Y, .int .i64 BW, .int .i64 BH]] w fun e w' => e = .returned (.int .i64 (inkN bs W X Y BW BH)) ∧ Bl w w' := by
  let w2 := ((w).alloc (.cells #[.int .i64 W, .int .i64 H, .slice A (W * H) ac] 24)).alloc (.cells #[.int .i64 X, .int .i64 Y, .int .i64 BW, .int .i64 BH] 29)
  have w2b : Bl w w2 := ((Bl.refl w).alloc _).alloc _
  have w21 : Blk w2 (w.heap.size) 24 #[.int .i64 W, .int .i64 H, .slice A (W * H) ac] := by
    have h0 := Blk.new (w) 24 #[.int .i64 W, .int .i64 H, .slice A (W * H) ac]
    exact (h0.alloc _)
  have w22 : Blk w2 (w.heap.size + 1) 29 #[.int .i64 X, .int .i64 Y, .int .i64 BW, .int .i64 BH] := by
    have h0 := Blk.new ((w).alloc (.cells #[.int .i64 W, .int .i64 H, .slice A (W * H) ac] 24)) 29 #[.int .i64 X, .int .i64 Y, .int .i64 BW, .int .i64 BH]
    simp only [World.size_alloc] at h0
    exact h0
  have k2 := w22.all4
  have HA := Lib.hid (hA.bl w2b)
  clear hA
  go_enter Tryd.func237, Tryd.ntmps237
  go_wp2_with fail
  go_loopw [5, 6] (fun n u wr => ∃ j : Nat, j ≤ BH ∧ u = .int .i64 ((Y : Int) + j) ∧ n = .int .i64 (inkN bs W X Y BW j) ∧ Bl w2 wr) (fun _ u _ => Y + BH - (intOf u).toNat)
  case atStart => exact ⟨0, Nat.zero_le _, by simp, rfl, Bl.refl _⟩
  case round =>
    clear k2
    obtain ⟨j, hj, rfl, rfl, hbr⟩ := hrel
    have k2 := (w22.bl hbr).all4
    by_cases hlt : j < BH
    · have d1 : (Y : Int) + (j : Int) < (Y : Int) + (BH : Int) := by omega
      go_wp2_with fail
      go_loopw [5, 7] (fun n u wr => ∃ i : Nat, i ≤ BW ∧ u = .int .i64 ((X : Int) + i) ∧ n = .int .i64 (((inkN bs W X Y BW j + sumN (fun i => b1 (pix bs W (X + i) (Y + j))) i : Nat)) : Int) ∧ Bl w2 wr) (fun _ u _ => X + BW - (intOf u).toNat)
      case atStart => exact ⟨0, Nat.zero_le _, by simp, rfl, hbr⟩
      case round =>
        clear k2 hbr
        rename_i wo _ _ _
        obtain ⟨i, hi, rfl, rfl, hbr⟩ := hrel
        have k1 := (w21.bl hbr).all3
        have k2 := (w22.bl hbr).all4
        by_cases hlt2 : i < BW
        · have d2 : (X : Int) + (i : Int) < (X : Int) + (BW : Int) := by omega
          have hat := at_any W H A ac bs (((X + i : Nat)) : Int) (((Y + j : Nat)) : Int) wr (HA.out.bl hbr) hW hH
          rw [atI_in bs W H (X + i) (Y + j) (by omega) (by omega)] at hat
          have hst : sumN (fun i => b1 (pix bs W (X + i) (Y + j))) (i + 1) = sumN (fun i => b1 (pix bs W (X + i) (Y + j))) i + b1 (pix bs W (X + i) (Y + j)) := rfl
          have hle : sumN (fun i => b1 (pix bs W (X + i) (Y + j))) i ≤ i * 1 := sumN_le (fun _ => b1_le _) i
          have hle2 : inkN bs W X Y BW j ≤ j * BW := sumN_le (fun k => by have := sumN_le (f := fun i => b1 (pix bs W (X + i) (Y + k))) (c := 1) (fun _ => b1_le _) BW; simpa using this) j
          have hle3 := Nat.mul_le_mul (show j ≤ 4000 by omega) (show BW ≤ 4000 by omega)
          obtain ⟨n, hn⟩ : ∃ n, n = sumN (fun i => b1 (pix bs W (X + i) (Y + j))) i := ⟨_, rfl⟩
          obtain ⟨va, hva⟩ : ∃ v, v = pix bs W (X + i) (Y + j) := ⟨_, rfl⟩
          obtain ⟨q, hq⟩ : ∃ q, q = inkN bs W X Y BW j := ⟨_, rfl⟩
          rw [← hn, ← hva] at hst
          rw [← hn] at hle ⊢
          rw [← hva] at hat
          rw [← hq] at hle2 ⊢
          have ex : (((X + i : Nat)) : Int) = (X : Int) + (i : Int) := by simp
          have ey : (((Y + j : Nat)) : Int) = (Y : Int) + (j : Int) := by simp
          rw [ex, ey] at hat
          have Hat := Lib.hid hat; have Hst := Lib.hid hst; have Hq := Lib.hid hq
          clear hat hst hn hva ex ey hq
          cases va
          all_goals
            go_wp2_with fail
            refine Hat.out.mono ?_
            rintro e w1 ⟨rfl, hb1⟩
            go_wp2_with fail
            exact ⟨⟨i + 1, hlt2, by go_num, by rw [Hst.out]; first | (congr 1; done) | (congr 1; simp [b1]; done) | (congr 1; simp [b1]; omega), hbr.trans hb1⟩, by simp [intOf]; omega⟩
        · obtain rfl : i = BW := by omega
          go_wp2_with fail
          exact ⟨⟨j + 1, hlt, by go_num, rfl, hbr⟩, by simp [intOf]; omega⟩
    · obtain rfl : j = BH := by omega
      go_wp2_with fail
      go_ret
      exact ⟨rfl, w2b.trans hbr⟩

set_option maxRecDepth 100000 in
set_option maxHeartbeats 2000000 in
theorem columnsOf_any (W H : Nat) (A : Option Addr) (ac : Nat) (bs : List Bool) (w : World) (hA : Reads w 1 A (W * H) (bs.map .bool)) (hW : W ≤ 4000) (hH : H ≤ 4000) :
    Calls Tryd.prog 154 #[.agg #[.int .i64 W, .int .i64 H, .slice A (W * H) ac]] w fun e w' => ∃ P c, e = .returned (.slice P W c) ∧ Reads w' 1 P W ((tabL W (colI bs W H)).map (.int .i64)) ∧ Bl w w' := by
  let w2 := (w).alloc (.cells #[.int .i64 W, .int .i64 H, .slice A (W * H) ac] 24)
  have w2b : Bl w w2 := (Bl.refl w).alloc _
  have w21 : Blk w2 (w.heap.size) 24 #[.int .i64 W, .int .i64 H, .slice A (W * H) ac] := by
    have h0 := Blk.new (w) 24 #[.int .i64 W, .int .i64 H, .slice A (W * H) ac]
    exact h0
  have k1 := w21.all3
  have lw2 : w2.heap.size = w.heap.size + 1 := by simp [w2]
  have HA := Lib.hid (hA.bl w2b)
  have ho0 : w2.ownsRow (w.heap.size + 1) 3 1 (.slice none 0 0) 0 ((tabL 0 (colI bs W H)).map (.int .i64)) := World.ownsRow_nil _ _ _ _
  have Ho0 := Lib.hid ho0
  clear hA ho0
  go_enter Tryd.func154, Tryd.ntmps154
  go_wp2_with fail
  go_loopw [3, 7] (fun v u wr => ∃ k : Nat, k ≤ W ∧ u = .int .i64 k ∧ Bl w2 wr ∧ wr.ownsRow (w.heap.size + 1) 3 1 v k ((tabL k (colI bs W H)).map (.int .i64))) (fun _ u _ => W - (intOf u).toNat)
  case atStart => exact ⟨0, Nat.zero_le _, rfl, Bl.refl _, Ho0.out⟩
  case round =>
    clear k1
    obtain ⟨k, hk, rfl, hbr, hown⟩ := hrel
    have k1 := (w21.bl hbr).all3
    by_cases hlt : k < W
    · have hcall := inkOf_any W H k 0 1 H A ac bs wr (HA.out.bl hbr) hW hH (by omega) (by omega)
      rw [ink_col] at hcall
      have htl : (tabL (k + 1) (colI bs W H)).map (Value.int .i64) = (tabL k (colI bs W H)).map (Value.int .i64) ++ [Value.int .i64 ((colI bs W H) k)] := by simp [tabL, List.range_succ]
      have Hcall := Lib.hid hcall; have Htl := Lib.hid htl
      clear hcall htl
      go_wp2_with fail
      refine Hcall.out.mono ?_
      rintro e w1 ⟨rfl, hb1⟩
      have hown1 := own_bl hown hb1
      have hbr1 := hbr.trans hb1
      clear hown
      go_wp2_with (at_builtin; refine wpList_append_one rfl (.tmp 10) (.tmp 17) 83 rfl 3 (.int .i64 0) 8 Tryd.underlying83 info_int rfl (w.heap.size + 1) _ _ _ rfl _ rfl rfl hbr1 (by omega) (by have := hbr1.le; omega) hown1 (by omega) (by unfold maxLen; omega) ?_; intro v' w' hown' hb' _)
      exact ⟨⟨k + 1, hlt, by go_num, hb', by rw [Htl.out]; exact hown'⟩, by simp [intOf]; omega⟩
    · obtain rfl : k = W := by omega
      obtain ⟨P, c, rfl, hp⟩ := own_reads hown
      go_wp2_with fail
      go_ret
      exact ⟨_, _, rfl, hp, w2b.trans hbr⟩

/-! ### Ends -/
set_option maxHeartbeats 400000 in
theorem ends1_any (n : Int) (w : World) : Calls Tryd.prog 236 #[.int .i64 n] w fun e w' => e = .returned (.bool (decide (0 < n))) ∧ w = w' := by
  go_enter Tryd.func236, Tryd.ntmps236
  go_wp2_with fail
  go_ret
  exact ⟨by first | rfl | simp, rfl⟩
theorem ends1_enters : ∀ args w, (callFunc 236 args).run Tryd.prog w = .ok (.enter 236 args) w := enters Tryd.func236 (by kernel_rfl) rfl

set_option maxRecDepth 100000 in
set_option maxHeartbeats 1000000 in
theorem indexFunc_any (P : Option Addr) (N c : Nat) (f : Nat → Nat) (w : World) (hr : Reads w 1 P N ((tabL N fun k => ((f k : Nat) : Int)).map (.int .i64))) (hN : N ≤ 16000) :
    Calls Tryd.prog 235 #[.slice P N c, .func (.func 236) #[] #[]] w fun e w' => ∃ x : Int, e = .returned (.int .i64 x) ∧ ((x = -1 ∧ NoEnds f N) ∨ (∃ k : Nat, x = k ∧ k < N ∧ 0 < f k ∧ ∀ j, j < k → f j = 0)) ∧ w = w' := by
  have hent := ends1_enters
  go_enter Tryd.func235, Tryd.ntmps235
  go_wp2_with fail
  go_loop [8] (fun u => ∃ k : Nat, k ≤ N ∧ u = .int .i64 k ∧ Hid (∀ j, j < k → f j = 0)) (fun u => N - (intOf u).toNat)
  case atStart => exact ⟨0, Nat.zero_le _, rfl, fun j hj => absurd hj (by omega)⟩
  case round =>
    obtain ⟨k, hk, rfl, hz⟩ := hrel
    by_cases hlt : k < N
    · obtain ⟨ad, rfl, hc⟩ := hr.intAt hlt
      by_cases hf : f k = 0
      · have hzz : Hid (∀ j, j < k + 1 → f j = 0) := fun j hj => by
          rcases Nat.lt_or_ge j k with h | h
          · exact hz.out j h
          · obtain rfl : j = k := by omega
            exact hf
        simp only [hf] at hc
        have hd : decide ((0 : Int) < ((0 : Nat) : Int)) = false := by decide
        have Hf := Lib.hid hf
        clear hf
        go_wp2_with (go_at_call 236; refine (ends1_any _ _).mono ?_; rintro e w' ⟨rfl, rfl⟩)
        exact ⟨⟨k + 1, hlt, by go_num, hzz⟩, by simp [intOf]; omega⟩
      · have hf' : 0 < f k := by omega
        have hd : decide ((0 : Int) < ((f k : Nat) : Int)) = true := by simp; omega
        have Hf := Lib.hid hf'
        clear hf
        go_wp2_with (go_at_call 236; refine (ends1_any _ _).mono ?_; rintro e w' ⟨rfl, rfl⟩)
        go_ret
        exact ⟨_, rfl, Or.inr ⟨k, rfl, hlt, Hf.out, hz.out⟩, rfl⟩
    · obtain rfl : k = N := by omega
      go_wp2_with fail
      go_ret
      exact ⟨_, rfl, Or.inl ⟨rfl, hz.out⟩, rfl⟩

set_option maxRecDepth 100000 in
set_option maxHeartbeats 1000000 in
theorem ends_any (P : Option Addr) (N c : Nat) (f : Nat → Nat) (w : World) (hr : Reads w 1 P N ((tabL N fun k => ((f k : Nat) : Int)).map (.int .i64))) (hN : N ≤ 16000) :
    Calls Tryd.prog 153 #[.slice P N c] w fun e w' => ∃ (x r : Nat) (is : Bool), e = .returned (.tuple #[.int .i64 x, .int .i64 r, .bool is]) ∧ ((is = false ∧ x = 0 ∧ r = 0 ∧ NoEnds f N) ∨ (is = true ∧ Ends f N x r)) ∧ w = w' := by
  go_enter Tryd.func153, Tryd.ntmps153
  go_wp2_with fail
  refine (indexFunc_any P N c f w hr hN).mono ?_
  rintro e w' ⟨x, rfl, hx, rfl⟩
  rcases hx with ⟨rfl, hno⟩ | ⟨k, rfl, hk, hpos, hz⟩
  · have Hno := Lib.hid hno
    clear hno
    go_wp2_with fail
    refine bodyPost_ret (v := .tuple #[.int .i64 0, .int .i64 0, .bool false]) (by simp [results, Tryd.results153, go_sem]) rfl ⟨0, 0, false, rfl, Or.inl ⟨rfl, rfl, rfl, Hno.out⟩, rfl⟩
  · have Hpos := Lib.hid hpos; have Hz := Lib.hid hz
    clear hpos hz
    go_wp2_with fail
    go_loop [6] (fun u => ∃ r : Nat, r < N ∧ k ≤ r ∧ u = .int .i64 r ∧ Hid (∀ j, r < j → j < N → f j = 0)) (fun u => (intOf u).toNat)
    case atStart => exact ⟨N - 1, by omega, by omega, by congr 1; omega, fun j h1 h2 => by omega⟩
    case round =>
      obtain ⟨r, hr1, hr2, rfl, hzr⟩ := hrel
      obtain ⟨ad, rfl, hc⟩ := hr.intAt hr1
      by_cases hf : f r = 0
      · have hne : k ≠ r := fun e => by subst e; have := Hpos.out; omega
        have hzz : Hid (∀ j, r - 1 < j → j < N → f j = 0) := fun j h1 h2 => by
          rcases Nat.lt_or_ge r j with h | h
          · exact hzr.out j h h2
          · obtain rfl : j = r := by omega
            exact hf
        simp only [hf] at hc
        have Hf := Lib.hid hf
        clear hf
        go_wp2_with fail
        exact ⟨⟨r - 1, by omega, by omega, by go_num, hzz⟩, by simp [intOf]; omega⟩
      · have hd : (((f r : Nat) : Int) == 0) = false := by simp; omega
        have hd2 : ((f r) == 0) = false := by simp; omega
        have Hf := Lib.hid (show 0 < f r by omega)
        clear hf
        go_wp2_with fail
        refine bodyPost_ret (v := .tuple #[.int .i64 k, .int .i64 r, .bool true]) (by simp [results, Tryd.results153, go_sem]) rfl (by first | exact ⟨k, r, true, rfl, Or.inr ⟨rfl, ⟨hk, Hpos.out, Hz.out⟩, hr1, Hf.out, hzr.out⟩, rfl⟩ | exact ⟨k, r, Or.inr ⟨rfl, ⟨⟨hk, Hpos.out, Hz.out⟩, hr1, Hf.out, hzr.out⟩, rfl⟩⟩)

end Go.Proofs.YtkhajhcfplicpaaDoor
