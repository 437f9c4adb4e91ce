/- The plain law of ink that is moved place by place. -/
import Derived.Test.YtecfjdladcmhjaaDoorMixes
import Derived.Test.YtecfjdladcmhjaaDoorSkewLaw
namespace Go.Proofs.YtecfjdladcmhjaaDoor
open Go.RowKit

/-! ### a table of bools in memory -/
def tabB (N : Nat) (f : Nat → Bool) : Array Value := ((List.range N).map fun k => Value.bool (f k)).toArray
theorem tabB_size (N : Nat) (f : Nat → Bool) : (tabB N f).size = N := by simp [tabB]
theorem tabB_get {N : Nat} (f : Nat → Bool) {k : Nat} (h : k < N) : (tabB N f)[k]? = some (.bool (f k)) := by simp [tabB, h]
theorem tabB_congr {N : Nat} {f g : Nat → Bool} (h : ∀ k, k < N → f k = g k) : tabB N f = tabB N g := by
  unfold tabB
  congr 1
  exact List.map_congr_left fun k hk => by rw [h k (List.mem_range.1 hk)]
theorem tabB_set {N : Nat} {f g : Nat → Bool} {a : Nat} {v : Bool} (hg : ∀ k, k < N → g k = if k = a then v else f k) : (tabB N f).setIfInBounds a (.bool v) = tabB N g := by
  apply Array.ext_getElem?
  intro i
  rcases Nat.lt_or_ge i N with h | h
  · rw [tabB_get g h, hg i h]
    by_cases e : a = i
    · subst e
      simp [tabB, h]
    · rw [Array.getElem?_setIfInBounds_ne e, tabB_get f h, if_neg (fun e' => e e'.symm)]
  · rw [Array.getElem?_eq_none (by simp [tabB_size]; exact h), Array.getElem?_eq_none (by rw [tabB_size]; exact h)]
theorem tabB_made (N : Nat) : madeCells #[.bool false] N = tabB N (fun _ => false) := by
  apply Array.ext_getElem?
  intro i
  rcases Nat.lt_or_ge i N with h | h
  · rw [tabB_get _ h]; simp [madeCells, h, Nat.mod_one]
  · rw [Array.getElem?_eq_none (by rw [size_madeCells]; exact h), Array.getElem?_eq_none (by rw [tabB_size]; exact h)]
theorem Blk.tabReadsB {w : World} {g : Nat} {t : TypeId} {N : Nat} {f : Nat → Bool} (h : Blk w g t (tabB N f)) : Reads w 1 (some ⟨g, 0, none⟩) N (((List.range N).map f).map .bool) := by
  have := h.reads N 1 (by rw [tabB_size]; omega)
  have e : (tabB N f).toList = ((List.range N).map f).map .bool := by simp [tabB, Function.comp_def]
  rwa [e] at this
theorem Blk.tabAtB {w : World} {g : Nat} {t : TypeId} {N : Nat} {f : Nat → Bool} (h : Blk w g t (tabB N f)) {k : Nat} (hk : k < N) : w.cell? ⟨g, k, none⟩ = some (.bool (f k)) := (h.cell k).trans (tabB_get f hk)
theorem Blk.tabSetB {w : World} {g : Nat} {t : TypeId} {N : Nat} {f f' : Nat → Bool} (h : Blk w g t (tabB N f)) (a : Nat) (v : Bool) (hg : ∀ k, k < N → f' k = if k = a then v else f k) : Blk (w.setCell ⟨g, a, none⟩ (.bool v)) g t (tabB N f') := by
  have := h.set_ a (.bool v)
  rwa [tabB_set hg] at this

/-! ### moving -/
theorem atI_ways' (cs : List Bool) (W H : Nat) (x y : Int) : atI cs W H x y = false ∨ ∃ X Y : Nat, x = (X : Int) ∧ y = (Y : Int) ∧ X < W ∧ Y < H ∧ atI cs W H x y = pix cs W X Y := by
  by_cases c : 0 ≤ x ∧ x < W ∧ 0 ≤ y ∧ y < H
  · obtain ⟨c1, c2, c3, c4⟩ := c
    obtain ⟨X, rfl⟩ := Int.eq_ofNat_of_zero_le c1
    obtain ⟨Y, rfl⟩ := Int.eq_ofNat_of_zero_le c3
    exact Or.inr ⟨X, Y, rfl, rfl, by omega, by omega, atI_in cs W H X Y (by omega) (by omega)⟩
  · exact Or.inl (atI_out cs W H x y c)
def hitTo (bs : List Bool) (W : Nat) (T : Nat → Nat → Int × Int) : Nat → Nat → Bool
  | 0, _ => false
  | m + 1, k => hitTo bs W T m k || (bs.getD m false && decide (T (m % W) (m / W) = (((k % W : Nat) : Int), ((k / W : Nat) : Int))))
theorem hitTo_iff (bs : List Bool) (W : Nat) (T : Nat → Nat → Int × Int) (k : Nat) : ∀ m, hitTo bs W T m k = true ↔ ∃ i, i < m ∧ bs.getD i false = true ∧ T (i % W) (i / W) = (((k % W : Nat) : Int), ((k / W : Nat) : Int))
  | 0 => by simp [hitTo]
  | m + 1 => by
    simp only [hitTo, Bool.or_eq_true, hitTo_iff bs W T k m, Bool.and_eq_true, decide_eq_true_eq]
    constructor
    · rintro (⟨i, h1, h2⟩ | h)
      · exact ⟨i, by omega, h2⟩
      · exact ⟨m, by omega, h⟩
    · rintro ⟨i, h1, h2⟩
      rcases Nat.lt_or_ge i m with h | h
      · exact Or.inl ⟨i, h, h2⟩
      · obtain rfl : i = m := by omega
        exact Or.inr h2
theorem hitTo_no {bs : List Bool} {W m : Nat} {T : Nat → Nat → Int × Int} (h : bs.getD m false = false) (k : Nat) : hitTo bs W T (m + 1) k = hitTo bs W T m k := by
  simp only [hitTo, h, Bool.false_and, Bool.or_false]
theorem place_parts {W H k : Nat} (hk : k < W * H) : k % W < W ∧ k / W < H ∧ (k / W) * W + k % W = k := by
  have hW : 0 < W := by rcases Nat.eq_zero_or_pos W with h0 | h0; (subst h0; simp at hk); exact h0
  exact ⟨Nat.mod_lt _ hW, Nat.div_lt_of_lt_mul hk, by have := Nat.div_add_mod k W; rw [Nat.mul_comm] at this; exact this⟩
theorem at_parts {W x : Nat} (y : Nat) (hx : x < W) : (y * W + x) % W = x ∧ (y * W + x) / W = y :=
  ⟨by rw [Nat.mul_comm, Nat.mul_add_mod, Nat.mod_eq_of_lt hx], by rw [Nat.mul_comm, Nat.mul_add_div (by omega), Nat.div_eq_of_lt hx, Nat.add_zero]⟩
theorem hitTo_out {bs : List Bool} {W H m : Nat} {T : Nat → Nat → Int × Int} {x y : Int} (hT : T (m % W) (m / W) = (x, y)) (ho : x < 0 ∨ (W : Int) ≤ x ∨ y < 0 ∨ (H : Int) ≤ y) (k : Nat) (hk : k < W * H) : hitTo bs W T (m + 1) k = hitTo bs W T m k := by
  obtain ⟨h1, h2, _⟩ := place_parts hk
  have : ¬ ((x, y) = (((k % W : Nat) : Int), ((k / W : Nat) : Int))) := by
    rw [Prod.mk.injEq]
    generalize k % W = a at h1 ⊢
    generalize k / W = b at h2 ⊢
    omega
  simp only [hitTo, hT, decide_eq_false this, Bool.and_false, Bool.or_false]
theorem hitTo_in {bs : List Bool} {W H m X Y : Nat} {T : Nat → Nat → Int × Int} (h : bs.getD m false = true) (hT : T (m % W) (m / W) = ((X : Int), (Y : Int))) (hX : X < W) (k : Nat) (hk : k < W * H) :
    hitTo bs W T (m + 1) k = if k = Y * W + X then true else hitTo bs W T m k := by
  obtain ⟨h1, h2, h3⟩ := place_parts hk
  obtain ⟨p1, p2⟩ := at_parts Y hX
  simp only [hitTo, hT, h, Bool.true_and]
  by_cases e : k = Y * W + X
  · rw [if_pos e, e, p1, p2]; simp
  · rw [if_neg e]
    have : ¬ (((X : Int), (Y : Int)) = (((k % W : Nat) : Int), ((k / W : Nat) : Int))) := by
      rw [Prod.mk.injEq]
      rintro ⟨a, b⟩
      have a' : X = k % W := by omega
      have b' : Y = k / W := by omega
      rw [a', b', h3] at e
      exact e rfl
    rw [decide_eq_false this, Bool.or_false]
/-- Columns that go down. -/
theorem hit_lean (bs : List Bool) (W H : Nat) (s : Nat → Int) (k : Nat) (hk : k < W * H) :
    hitTo bs W (fun x y => ((x : Int), (y : Int) + s x)) (W * H) k = atI bs W H ((k % W : Nat) : Int) (((k / W : Nat) : Int) - s (k % W)) := by
  obtain ⟨h1, h2, h3⟩ := place_parts hk
  rw [Bool.eq_iff_iff, hitTo_iff]
  constructor
  · rintro ⟨i, hi, hb, hT⟩
    obtain ⟨i1, i2, i3⟩ := place_parts hi
    rw [Prod.mk.injEq] at hT
    have e1 : i % W = k % W := by omega
    rw [e1] at hT
    have e2 : ((k / W : Nat) : Int) - s (k % W) = ((i / W : Nat) : Int) := by omega
    rw [e2, atI_in bs W H _ _ h1 i2]
    unfold pix
    rw [← e1, i3]
    exact hb
  · intro h
    rcases atI_ways' bs W H ((k % W : Nat) : Int) (((k / W : Nat) : Int) - s (k % W)) with e | ⟨X, Y, eX, eY, hX, hY, e⟩
    · rw [e] at h; cases h
    · rw [e] at h
      obtain ⟨p1, p2⟩ := at_parts Y hX
      refine ⟨Y * W + X, place_lt hX hY, h, ?_⟩
      rw [p1, p2]
      have : X = k % W := by omega
      rw [Prod.mk.injEq, this]
      exact ⟨rfl, by omega⟩
/-- Rows that go to the right. -/
theorem hit_slant (bs : List Bool) (W H : Nat) (s : Nat → Int) (k : Nat) (hk : k < W * H) :
    hitTo bs W (fun x y => ((x : Int) + s y, (y : Int))) (W * H) k = atI bs W H (((k % W : Nat) : Int) - s (k / W)) ((k / W : Nat) : Int) := by
  obtain ⟨h1, h2, h3⟩ := place_parts hk
  rw [Bool.eq_iff_iff, hitTo_iff]
  constructor
  · rintro ⟨i, hi, hb, hT⟩
    obtain ⟨i1, i2, i3⟩ := place_parts hi
    rw [Prod.mk.injEq] at hT
    have e1 : i / W = k / W := by omega
    rw [e1] at hT
    have e2 : ((k % W : Nat) : Int) - s (k / W) = ((i % W : Nat) : Int) := by omega
    rw [e2, atI_in bs W H _ _ i1 h2]
    unfold pix
    rw [← e1, i3]
    exact hb
  · intro h
    rcases atI_ways' bs W H (((k % W : Nat) : Int) - s (k / W)) ((k / W : Nat) : Int) with e | ⟨X, Y, eX, eY, hX, hY, e⟩
    · rw [e] at h; cases h
    · rw [e] at h
      obtain ⟨p1, p2⟩ := at_parts Y hX
      refine ⟨Y * W + X, place_lt hX hY, h, ?_⟩
      rw [p1, p2]
      have : Y = k / W := by omega
      rw [Prod.mk.injEq, this]
      exact ⟨by omega, rfl⟩

end Go.Proofs.YtecfjdladcmhjaaDoor
