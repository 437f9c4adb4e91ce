/- glyph.distance. -/
import Derived.Test.YtjelhdpcaileiaaGreatDoorS1
import Derived.Test.YtjelhdpcaileiaaGreatDoorS0

namespace Go.Proofs.YtjelhdpcaileiaaGreatDoor
open Go.RowKit

/-! ### counts -/
theorem b1_le (b : Bool) : b1 b ≤ 1 := by unfold b1; split <;> omega
def rowN (bs : List Bool) (W y : Nat) : Nat := sumN (fun x => b1 (pix bs W x y)) W
def colN (bs : List Bool) (W H x : Nat) : Nat := sumN (fun y => b1 (pix bs W x y)) H
def cntBy (bs : List Bool) (num : Nat → Nat) (m k : Nat) : Nat := sumN (fun i => b1 (bs.getD i false && decide (num i = k))) m
theorem cntBy_succ (bs : List Bool) (num : Nat → Nat) (m k : Nat) : cntBy bs num (m + 1) k = cntBy bs num m k + b1 (bs.getD m false && decide (num m = k)) := rfl
theorem cntBy_le (bs : List Bool) (num : Nat → Nat) (m k : Nat) : cntBy bs num m k ≤ m := by
  have := sumN_le (f := fun i => b1 (bs.getD i false && decide (num i = k))) (c := 1) (fun i => b1_le _) m
  simpa [cntBy] using this
theorem rowN_le (bs : List Bool) (W y : Nat) : rowN bs W y ≤ W := by
  have := sumN_le (f := fun x => b1 (pix bs W x y)) (c := 1) (fun i => b1_le _) W
  simpa [rowN] using this
theorem colN_le (bs : List Bool) (W H x : Nat) : colN bs W H x ≤ H := by
  have := sumN_le (f := fun y => b1 (pix bs W x y)) (c := 1) (fun i => b1_le _) H
  simpa [colN] using this
theorem sumN_pick (f : Nat → Nat) (n k : Nat) : sumN (fun y => if y = k then f y else 0) n = if k < n then f k else 0 := by
  induction n with
  | zero => simp [sumN]
  | succ n ih =>
    simp only [sumN, ih]
    by_cases h : n = k
    · subst h
      rw [if_neg (by omega), if_pos rfl, if_pos (by omega)]; omega
    · rw [if_neg h]
      by_cases h2 : k < n
      · rw [if_pos h2, if_pos (by omega)]; omega
      · rw [if_neg h2, if_neg (by omega)]
theorem cntBy_rows (bs : List Bool) (W H k : Nat) (hk : k < H) : cntBy bs (fun i => i / W) (W * H) k = rowN bs W k := by
  unfold cntBy
  rw [Nat.mul_comm, sumN_flat]
  have e : ∀ y, y < H → sumN (fun x => b1 (bs.getD (y * W + x) false && decide ((y * W + x) / W = k))) W = if y = k then rowN bs W y else 0 := by
    intro y _
    by_cases h : y = k
    · rw [if_pos h]
      refine sumN_congr fun x hx => ?_
      rw [(at_parts y hx).2, decide_eq_true h, Bool.and_true]
      rfl
    · rw [if_neg h]
      rw [← sumN_zero W]
      refine sumN_congr fun x hx => ?_
      rw [(at_parts y hx).2, decide_eq_false h, Bool.and_false]
      rfl
  rw [sumN_congr e, sumN_pick, if_pos hk]
theorem cntBy_cols (bs : List Bool) (W H k : Nat) (hk : k < W) : cntBy bs (fun i => i % W) (W * H) k = colN bs W H k := by
  unfold cntBy
  rw [Nat.mul_comm, sumN_flat]
  refine sumN_congr fun y _ => ?_
  have e : ∀ x, x < W → b1 (bs.getD (y * W + x) false && decide ((y * W + x) % W = k)) = if x = k then b1 (pix bs W x y) else 0 := by
    intro x hx
    rw [(at_parts y hx).1]
    by_cases h : x = k
    · rw [if_pos h, decide_eq_true h, Bool.and_true]; rfl
    · rw [if_neg h, decide_eq_false h, Bool.and_false]; rfl
  rw [sumN_congr e, sumN_pick (fun x => b1 (pix bs W x y)), if_pos hk]
/-- Ink in a box. -/
def inkN (bs : List Bool) (W X Y BW BH : Nat) : Nat := sumN (fun j => sumN (fun i => b1 (pix bs W (X + i) (Y + j))) BW) BH
theorem ink_row (bs : List Bool) (W y : Nat) : inkN bs W 0 y W 1 = rowN bs W y := by
  unfold inkN rowN
  simp [sumN]
theorem ink_col (bs : List Bool) (W H x : Nat) : inkN bs W x 0 1 H = colN bs W H x := by
  unfold inkN colN
  simp [sumN]
theorem ink_grid (BW BH : Nat) (f : Nat → Nat → Bool) : sumN (fun i => b1 ((grid BW BH f).getD i false)) (BW * BH) = sumN (fun j => sumN (fun i => b1 (f i j)) BW) BH := by
  have hg : ∀ i, i < BW * BH → b1 ((grid BW BH f).getD i false) = b1 (f (i % BW) (i / BW)) := fun i hi => by rw [List.getD, grid_at _ _ _ _ hi]; rfl
  rw [sumN_congr hg, Nat.mul_comm, sumN_flat]
  refine sumN_congr fun y _ => sumN_congr fun x hx => ?_
  rw [(at_parts y hx).1, (at_parts y hx).2]
theorem sumN_pos (f : Nat → Nat) : ∀ n, 0 < sumN f n ↔ ∃ i, i < n ∧ 0 < f i
  | 0 => by simp [sumN]
  | n + 1 => by
    have ih := sumN_pos f n
    simp only [sumN]
    constructor
    · intro h
      by_cases h2 : 0 < f n
      · exact ⟨n, by omega, h2⟩
      · obtain ⟨i, hi, h3⟩ := ih.1 (by omega)
        exact ⟨i, by omega, h3⟩
    · rintro ⟨i, hi, h3⟩
      by_cases h2 : i = n
      · subst h2; omega
      · have := ih.2 ⟨i, by omega, h3⟩; omega
theorem b1_pos (b : Bool) : 0 < b1 b ↔ b = true := by cases b <;> simp [b1]
theorem rowN_pos (bs : List Bool) (W y : Nat) : 0 < rowN bs W y ↔ ∃ x, x < W ∧ pix bs W x y = true := by
  unfold rowN; rw [sumN_pos]; simp only [b1_pos]
theorem colN_pos (bs : List Bool) (W H x : Nat) : 0 < colN bs W H x ↔ ∃ y, y < H ∧ pix bs W x y = true := by
  unfold colN; rw [sumN_pos]; simp only [b1_pos]

/-! ### ends -/
def Ends (f : Nat → Nat) (N x r : Nat) : Prop := (x < N ∧ 0 < f x ∧ ∀ j, j < x → f j = 0) ∧ (r < N ∧ 0 < f r ∧ ∀ j, r < j → j < N → f j = 0)
def NoEnds (f : Nat → Nat) (N : Nat) : Prop := ∀ j, j < N → f j = 0
theorem Ends.same {f : Nat → Nat} {N x r x' r' : Nat} (h : Ends f N x r) (k : Ends f N x' r') : x = x' ∧ r = r' := by
  obtain ⟨⟨h1, h2, h3⟩, h4, h5, h6⟩ := h
  obtain ⟨⟨k1, k2, k3⟩, k4, k5, k6⟩ := k
  constructor
  · rcases Nat.lt_trichotomy x x' with c | c | c
    · have := k3 x c; omega
    · exact c
    · have := h3 x' c; omega
  · rcases Nat.lt_trichotomy r r' with c | c | c
    · have := h6 r' c k4; omega
    · exact c
    · have := k6 r c h4; omega
theorem Ends.not {f : Nat → Nat} {N x r : Nat} (h : Ends f N x r) (k : NoEnds f N) : False := by
  have := k x h.1.1
  have := h.1.2.1
  omega

/-! ### bounds -/
def BoundsIs (bs : List Bool) (W H : Nat) (is : Bool) (X Y BW BH : Int) : Prop :=
  (is = false ∧ NoEnds (colN bs W H) W ∧ X = 0 ∧ Y = 0 ∧ BW = 0 ∧ BH = 0) ∨
  (is = true ∧ ∃ l r t b : Nat, Ends (colN bs W H) W l r ∧ Ends (rowN bs W) H t b ∧ X = l ∧ Y = t ∧ BW = (r : Int) - l + 1 ∧ BH = (b : Int) - t + 1)
theorem BoundsIs.same {bs : List Bool} {W H : Nat} {is is' : Bool} {X Y BW BH X' Y' BW' BH' : Int} (h : BoundsIs bs W H is X Y BW BH) (k : BoundsIs bs W H is' X' Y' BW' BH') : is = is' ∧ X = X' ∧ Y = Y' ∧ BW = BW' ∧ BH = BH' := by
  rcases h with ⟨h1, h2, h3, h4, h5, h6⟩ | ⟨h1, l, r, t, b, h2, h3, h4, h5, h6, h7⟩ <;> rcases k with ⟨k1, k2, k3, k4, k5, k6⟩ | ⟨k1, l', r', t', b', k2, k3, k4, k5, k6, k7⟩
  · exact ⟨by rw [h1, k1], by omega, by omega, by omega, by omega⟩
  · exact (k2.not h2).elim
  · exact (h2.not k2).elim
  · obtain ⟨e1, e2⟩ := h2.same k2
    obtain ⟨e3, e4⟩ := h3.same k3
    exact ⟨by rw [h1, k1], by omega, by omega, by omega, by omega⟩
theorem noEnds_rows {bs : List Bool} {W H : Nat} (h : NoEnds (rowN bs W) H) : NoEnds (colN bs W H) W := by
  intro x hx
  rcases Nat.eq_zero_or_pos (colN bs W H x) with e | e
  · exact e
  · obtain ⟨y, hy, hp⟩ := (colN_pos bs W H x).1 e
    have := h y hy
    have := (rowN_pos bs W y).2 ⟨x, hx, hp⟩
    omega
theorem BoundsIs.bd {bs : List Bool} {W H : Nat} {is : Bool} {X Y BW BH : Int} (h : BoundsIs bs W H is X Y BW BH) : (0 ≤ X ∧ X ≤ W) ∧ (0 ≤ Y ∧ Y ≤ H) ∧ (0 ≤ BW ∧ BW ≤ W) ∧ (0 ≤ BH ∧ BH ≤ H) ∧ (is = true → X + BW ≤ W ∧ Y + BH ≤ H ∧ 1 ≤ BW ∧ 1 ≤ BH) := by
  rcases h with ⟨h1, h2, h3, h4, h5, h6⟩ | ⟨h1, l, r, t, b, h2, h3, h4, h5, h6, h7⟩
  · refine ⟨by omega, by omega, by omega, by omega, fun h => ?_⟩
    rw [h1] at h; cases h
  · have a1 := h2.1.1
    have a2 := h2.2.1
    have a3 := h3.1.1
    have a4 := h3.2.1
    have a5 : l ≤ r := by
      rcases Nat.lt_or_ge r l with c | c
      · have := h2.1.2.2 r c; have := h2.2.2.1; omega
      · exact c
    have a6 : t ≤ b := by
      rcases Nat.lt_or_ge b t with c | c
      · have := h3.1.2.2 b c; have := h3.2.2.1; omega
      · exact c
    exact ⟨by omega, by omega, by omega, by omega, fun _ => by omega⟩

/-- The bounds so far. -/
def BInv (bs : List Bool) (W H m : Nat) (l t r b : Int) : Prop :=
  ((∀ i, i < m → bs.getD i false = false) ∧ l = W ∧ t = H ∧ r = -1 ∧ b = -1) ∨
  ((∃ i, i < m ∧ bs.getD i false = true ∧ l = ((i % W : Nat) : Int)) ∧ (∃ i, i < m ∧ bs.getD i false = true ∧ t = ((i / W : Nat) : Int)) ∧ (∃ i, i < m ∧ bs.getD i false = true ∧ r = ((i % W : Nat) : Int)) ∧ (∃ i, i < m ∧ bs.getD i false = true ∧ b = ((i / W : Nat) : Int)) ∧
    ∀ i, i < m → bs.getD i false = true → l ≤ ((i % W : Nat) : Int) ∧ ((i % W : Nat) : Int) ≤ r ∧ t ≤ ((i / W : Nat) : Int) ∧ ((i / W : Nat) : Int) ≤ b)
theorem BInv.start (bs : List Bool) (W H : Nat) : BInv bs W H 0 W H (-1) (-1) := Or.inl ⟨fun i hi => by omega, rfl, rfl, rfl, rfl⟩
theorem BInv.no {bs : List Bool} {W H m : Nat} {l t r b : Int} (h : BInv bs W H m l t r b) (hm : bs.getD m false = false) : BInv bs W H (m + 1) l t r b := by
  rcases h with ⟨h1, h2⟩ | ⟨⟨i1, a1, b1', c1⟩, ⟨i2, a2, b2, c2⟩, ⟨i3, a3, b3, c3⟩, ⟨i4, a4, b4, c4⟩, h5⟩
  · refine Or.inl ⟨fun i hi => ?_, h2⟩
    rcases Nat.lt_or_ge i m with c | c
    · exact h1 i c
    · obtain rfl : i = m := by omega
      exact hm
  · refine Or.inr ⟨⟨i1, by omega, b1', c1⟩, ⟨i2, by omega, b2, c2⟩, ⟨i3, by omega, b3, c3⟩, ⟨i4, by omega, b4, c4⟩, fun i hi hb => ?_⟩
    rcases Nat.lt_or_ge i m with c | c
    · exact h5 i c hb
    · obtain rfl : i = m := by omega
      rw [hm] at hb; cases hb
theorem BInv.yes {bs : List Bool} {W H m : Nat} {l t r b : Int} (h : BInv bs W H m l t r b) (hm : bs.getD m false = true) (hx : m % W < W) (hy : m / W < H) {l' t' r' b' : Int}
    (el : l' = if ((m % W : Nat) : Int) < l then ((m % W : Nat) : Int) else l) (et : t' = if ((m / W : Nat) : Int) < t then ((m / W : Nat) : Int) else t)
    (er : r' = if r < ((m % W : Nat) : Int) then ((m % W : Nat) : Int) else r) (eb : b' = if b < ((m / W : Nat) : Int) then ((m / W : Nat) : Int) else b) : BInv bs W H (m + 1) l' t' r' b' := by
  obtain ⟨x, hx'⟩ : ∃ x, x = m % W := ⟨_, rfl⟩
  obtain ⟨y, hy'⟩ : ∃ y, y = m / W := ⟨_, rfl⟩
  rw [← hx'] at el er hx
  rw [← hy'] at et eb hy
  rcases h with ⟨h1, rfl, rfl, rfl, rfl⟩ | ⟨⟨i1, a1, b1', c1⟩, ⟨i2, a2, b2, c2⟩, ⟨i3, a3, b3, c3⟩, ⟨i4, a4, b4, c4⟩, h5⟩
  · rw [if_pos (by omega)] at el et er eb
    refine Or.inr ⟨⟨m, by omega, hm, by rw [← hx']; exact el⟩, ⟨m, by omega, hm, by rw [← hy']; exact et⟩, ⟨m, by omega, hm, by rw [← hx']; exact er⟩, ⟨m, by omega, hm, by rw [← hy']; exact eb⟩, fun i hi hb => ?_⟩
    rcases Nat.lt_or_ge i m with c | c
    · rw [h1 i c] at hb; cases hb
    · obtain rfl : i = m := by omega
      rw [← hx', ← hy']; omega
  · refine Or.inr ⟨?_, ?_, ?_, ?_, fun i hi hb => ?_⟩
    · by_cases c : (x : Int) < l
      · rw [if_pos c] at el; exact ⟨m, by omega, hm, by rw [← hx']; exact el⟩
      · rw [if_neg c] at el; exact ⟨i1, by omega, b1', by rw [el]; exact c1⟩
    · by_cases c : (y : Int) < t
      · rw [if_pos c] at et; exact ⟨m, by omega, hm, by rw [← hy']; exact et⟩
      · rw [if_neg c] at et; exact ⟨i2, by omega, b2, by rw [et]; exact c2⟩
    · by_cases c : r < (x : Int)
      · rw [if_pos c] at er; exact ⟨m, by omega, hm, by rw [← hx']; exact er⟩
      · rw [if_neg c] at er; exact ⟨i3, by omega, b3, by rw [er]; exact c3⟩
    · by_cases c : b < (y : Int)
      · rw [if_pos c] at eb; exact ⟨m, by omega, hm, by rw [← hy']; exact eb⟩
      · rw [if_neg c] at eb; exact ⟨i4, by omega, b4, by rw [eb]; exact c4⟩
    · have key : (l' ≤ l ∧ l' ≤ x) ∧ (t' ≤ t ∧ t' ≤ y) ∧ (r ≤ r' ∧ (x : Int) ≤ r') ∧ (b ≤ b' ∧ (y : Int) ≤ b') := by
        refine ⟨?_, ?_, ?_, ?_⟩
        · split at el <;> omega
        · split at et <;> omega
        · split at er <;> omega
        · split at eb <;> omega
      rcases Nat.lt_or_ge i m with c | c
      · have := h5 i c hb; omega
      · obtain rfl : i = m := by omega
        rw [← hx', ← hy']; omega
theorem BInv.bd {bs : List Bool} {W H m : Nat} {l t r b : Int} (h : BInv bs W H m l t r b) (hm : m ≤ W * H) : (0 ≤ l ∧ l ≤ W) ∧ (0 ≤ t ∧ t ≤ H) ∧ (-1 ≤ r ∧ r < W) ∧ (-1 ≤ b ∧ b < H) := by
  have hp : ∀ i, i < m → i % W < W ∧ i / W < H := fun i hi => by
    obtain ⟨a, b, _⟩ := place_parts (show i < W * H by omega)
    exact ⟨a, b⟩
  rcases h with ⟨h1, rfl, rfl, rfl, rfl⟩ | ⟨⟨i1, a1, b1', c1⟩, ⟨i2, a2, b2, c2⟩, ⟨i3, a3, b3, c3⟩, ⟨i4, a4, b4, c4⟩, h5⟩
  · omega
  · have p1 := (hp i1 a1).1; have p2 := (hp i2 a2).2; have p3 := (hp i3 a3).1; have p4 := (hp i4 a4).2
    clear h5 hp
    generalize i1 % W = x1 at c1 p1
    generalize i2 / W = y2 at c2 p2
    generalize i3 % W = x3 at c3 p3
    generalize i4 / W = y4 at c4 p4
    omega
theorem pix_place {bs : List Bool} {W H i : Nat} (hi : i < W * H) : pix bs W (i % W) (i / W) = bs.getD i false := by
  unfold pix; rw [(place_parts hi).2.2]
/-- What comes out. -/
theorem BInv.done {bs : List Bool} {W H : Nat} {l t r b : Int} (h : BInv bs W H (W * H) l t r b) :
    (r < 0 ∧ BoundsIs bs W H false 0 0 0 0) ∨ (¬ r < 0 ∧ BoundsIs bs W H true l t (r - l + 1) (b - t + 1)) := by
  rcases h with ⟨h1, rfl, rfl, rfl, rfl⟩ | ⟨⟨i1, a1, b1', c1⟩, ⟨i2, a2, b2, c2⟩, ⟨i3, a3, b3, c3⟩, ⟨i4, a4, b4, c4⟩, h5⟩
  · refine Or.inl ⟨by omega, Or.inl ⟨rfl, fun x hx => ?_, rfl, rfl, rfl, rfl⟩⟩
    rcases Nat.eq_zero_or_pos (colN bs W H x) with e | e
    · exact e
    · obtain ⟨y, hy, hp⟩ := (colN_pos bs W H x).1 e
      have := h1 (y * W + x) (place_lt hx hy)
      unfold pix at hp
      rw [this] at hp; cases hp
  · have q1 := place_parts a1; have q2 := place_parts a2; have q3 := place_parts a3; have q4 := place_parts a4
    have all : ∀ x y, x < W → y < H → pix bs W x y = true → l ≤ x ∧ (x : Int) ≤ r ∧ t ≤ y ∧ (y : Int) ≤ b := fun x y hx hy hp => by
      have := h5 (y * W + x) (place_lt hx hy) hp
      rwa [(at_parts y hx).1, (at_parts y hx).2] at this
    refine Or.inr ⟨by omega, Or.inr ⟨rfl, i1 % W, i3 % W, i2 / W, i4 / W, ⟨⟨q1.1, (colN_pos _ _ _ _).2 ⟨i1 / W, q1.2.1, by rw [pix_place a1]; exact b1'⟩, fun j hj => ?_⟩, q3.1, (colN_pos _ _ _ _).2 ⟨i3 / W, q3.2.1, by rw [pix_place a3]; exact b3⟩, fun j hj hj2 => ?_⟩,
      ⟨⟨q2.2.1, (rowN_pos _ _ _).2 ⟨i2 % W, q2.1, by rw [pix_place a2]; exact b2⟩, fun j hj => ?_⟩, q4.2.1, (rowN_pos _ _ _).2 ⟨i4 % W, q4.1, by rw [pix_place a4]; exact b4⟩, fun j hj hj2 => ?_⟩, c1, c2, by rw [c1, c3], by rw [c2, c4]⟩⟩
    · rcases Nat.eq_zero_or_pos (colN bs W H j) with e | e
      · exact e
      · obtain ⟨y, hy, hp⟩ := (colN_pos bs W H j).1 e
        have := all j y (by omega) hy hp; omega
    · rcases Nat.eq_zero_or_pos (colN bs W H j) with e | e
      · exact e
      · obtain ⟨y, hy, hp⟩ := (colN_pos bs W H j).1 e
        have := all j y (by omega) hy hp; omega
    · rcases Nat.eq_zero_or_pos (rowN bs W j) with e | e
      · exact e
      · obtain ⟨x, hx, hp⟩ := (rowN_pos bs W j).1 e
        have := all x j hx (by omega) hp; omega
    · rcases Nat.eq_zero_or_pos (rowN bs W j) with e | e
      · exact e
      · obtain ⟨x, hx, hp⟩ := (rowN_pos bs W j).1 e
        have := all x j hx (by omega) hp; omega

/-! ### values -/
def cntV (zs : List Int) (m k : Nat) : Nat := sumN (fun i => b1 (decide (valOf zs i = (k : Int)))) m
theorem cntV_succ (zs : List Int) (m k : Nat) : cntV zs (m + 1) k = cntV zs m k + b1 (decide (valOf zs m = (k : Int))) := rfl
theorem cntV_le (zs : List Int) (m k : Nat) : cntV zs m k ≤ m := by
  have := sumN_le (f := fun i => b1 (decide (valOf zs i = (k : Int)))) (c := 1) (fun i => b1_le _) m
  simpa [cntV] using this

end Go.Proofs.YtjelhdpcaileiaaGreatDoor


/-! The plain law of fonts: what is wrong with one; how letters lie in memory. -/
namespace Go.Proofs.YtjelhdpcaileiaaGreatDoor
open Go.RowKit

/-- A letter: its text, its page's size, where the page's pixels lie, and what they are. -/
structure Ltr where
  text : List UInt8
  W : Int
  H : Int
  A : Option Addr
  m : Nat
  c : Nat
  bs : List Bool
def Ltr.cells (l : Ltr) : List Value := [.string ⟨l.text.toArray⟩, .int .i64 l.W, .int .i64 l.H, .slice l.A l.m l.c]
def ltrCells (ls : List Ltr) : List Value := ls.flatMap Ltr.cells
theorem ltrCells_len (ls : List Ltr) : (ltrCells ls).length = ls.length * 4 := by
  unfold ltrCells
  induction ls with
  | nil => rfl
  | cons l ls ih =>
    rw [List.flatMap_cons, List.length_append, ih, List.length_cons]
    show 4 + ls.length * 4 = (ls.length + 1) * 4
    omega
theorem ltrCells_append (a b : List Ltr) : ltrCells (a ++ b) = ltrCells a ++ ltrCells b := by unfold ltrCells; rw [List.flatMap_append]
theorem ltrCells_at {ls : List Ltr} {i : Nat} {l : Ltr} (h : ls[i]? = some l) (j : Nat) (hj : j < 4) : (ltrCells ls)[i * 4 + j]? = l.cells[j]? := by
  induction ls generalizing i with
  | nil => simp at h
  | cons x ls ih =>
    unfold ltrCells
    rw [List.flatMap_cons]
    rcases i with _ | i
    · simp only [List.getElem?_cons_zero, Option.some.injEq] at h
      subst h
      rw [List.getElem?_append_left (by show 0 * 4 + j < 4; omega)]
      simp
    · rw [List.getElem?_append_right (by show 4 ≤ (i + 1) * 4 + j; omega)]
      have e : (i + 1) * 4 + j - x.cells.length = i * 4 + j := by
        show (i + 1) * 4 + j - 4 = i * 4 + j
        omega
      rw [e]
      exact ih (by simpa using h)
/-- The letters lie there. -/
def LtrsAt (w : World) (L : Option Addr) (ls : List Ltr) : Prop := Reads w 4 L ls.length (ltrCells ls) ∧ ∀ l ∈ ls, Reads w 1 l.A l.m (l.bs.map .bool) ∧ l.text.length ≤ 9223372036854775807
theorem LtrsAt.bl {w w' : World} {L : Option Addr} {ls : List Ltr} (h : LtrsAt w L ls) (hb : Bl w w') : LtrsAt w' L ls := ⟨h.1.bl hb, fun l hl => ⟨(h.2 l hl).1.bl hb, (h.2 l hl).2⟩⟩
theorem LtrsAt.at_ {w : World} {L : Option Addr} {ls : List Ltr} {i : Nat} {l : Ltr} (h : LtrsAt w L ls) (hi : ls[i]? = some l) : ∃ ad, L = some ad ∧ w.cell? (ad.add (i * 4)) = some (.string ⟨l.text.toArray⟩) ∧ w.cell? ⟨(ad.add (i * 4)).block, (ad.add (i * 4)).off + 1, none⟩ = some (.int .i64 l.W) ∧
    w.cell? ⟨(ad.add (i * 4)).block, (ad.add (i * 4)).off + 2, none⟩ = some (.int .i64 l.H) ∧ w.cell? ⟨(ad.add (i * 4)).block, (ad.add (i * 4)).off + 3, none⟩ = some (.slice l.A l.m l.c) := by
  have hlt : i < ls.length := (List.getElem?_eq_some_iff.1 hi).1
  obtain ⟨ad, e, hc⟩ := h.1.2 (by omega)
  have key : ∀ j v, j < 4 → l.cells[j]? = some v → w.cell? ((ad.add (i * 4)).add j) = some v := fun j v hj hv => by
    rw [add_of_add]
    exact hc _ _ (by rw [ltrCells_at hi j hj]; exact hv)
  have k0 := key 0 _ (by omega) rfl
  have k1 := key 1 _ (by omega) rfl
  have k2 := key 2 _ (by omega) rfl
  have k3 := key 3 _ (by omega) rfl
  rw [Addr.add_zero'] at k0
  rw [Addr.add_succ'] at k1 k2 k3
  exact ⟨ad, e, k0, k1, k2, k3⟩
theorem LtrsAt.take {w : World} {L : Option Addr} {ls : List Ltr} (h : LtrsAt w L ls) (i : Nat) (hi : i ≤ ls.length) : LtrsAt w L (ls.take i) := by
  have hl : (ls.take i).length = i := by simp; omega
  refine ⟨⟨ltrCells_len _, fun hn => ?_⟩, fun l hm => h.2 l (List.mem_of_mem_take hm)⟩
  obtain ⟨ad, e, hc⟩ := h.1.2 (by omega)
  refine ⟨ad, e, fun j u hj => hc j u ?_⟩
  have e2 : ltrCells ls = ltrCells (ls.take i) ++ ltrCells (ls.drop i) := by rw [← ltrCells_append, List.take_append_drop]
  rw [e2, List.getElem?_append_left (List.getElem?_eq_some_iff.1 hj).1]
  exact hj

/-! ### what is wrong -/
def textB (l : List UInt8) : Bool := decide (∀ b ∈ l, 33 ≤ b.toNat ∧ b.toNat ≤ 126) && decide (1 ≤ l.length ∧ l.length ≤ 4)
/-- Does some column have no ink? -/
def bareB (bs : List Bool) (W H : Nat) : Bool := decide (∃ x, x < W ∧ colN bs W H x = 0)
def ltrErr (ht : Int) (prev : List (List UInt8)) (l : Ltr) : Int :=
  firstNZ [whenI (!textB l.text) 2, whenI (decide (l.text ∈ prev)) 6, pageErr l.W l.H l.m, whenI (l.H != ht) 11, whenI (decide (64 < l.W)) 4, whenI (bareB l.bs l.W.toNat l.H.toNat) 2]
def ltrsErr (ht : Int) : List (List UInt8) → List Ltr → Int
  | _, [] => 0
  | prev, l :: ls => if ltrErr ht prev l = 0 then ltrsErr ht (prev ++ [l.text]) ls else ltrErr ht prev l
theorem ltrsErr_go {ht : Int} {prev : List (List UInt8)} {l : Ltr} {ls : List Ltr} (h : ltrErr ht prev l = 0) : ltrsErr ht prev (l :: ls) = ltrsErr ht (prev ++ [l.text]) ls := by
  show (if ltrErr ht prev l = 0 then _ else _) = _
  rw [if_pos h]
theorem ltrsErr_stop {ht : Int} {prev : List (List UInt8)} {l : Ltr} {ls : List Ltr} (h : ltrErr ht prev l ≠ 0) : ltrsErr ht prev (l :: ls) = ltrErr ht prev l := by
  show (if ltrErr ht prev l = 0 then _ else _) = _
  rw [if_neg h]
def rangeB (ht gap sp : Int) : Bool := inB ht 1 64 && (inB gap 1 16 && inB sp 1 64)
def fontHead (nm : Bool) (ht gap sp : Int) (n : Nat) : Int := firstNZ [whenI (!nm) 5, whenI (!rangeB ht gap sp) 3, whenI (decide (sp ≤ gap)) 7, whenI (decide (n = 0)) 9, whenI (decide (200 < n)) 4]
def fontErr (nm : Bool) (ht gap sp : Int) (ls : List Ltr) : Int := if fontHead nm ht gap sp ls.length = 0 then ltrsErr ht [] ls else fontHead nm ht gap sp ls.length
/-- What is left of the letters, from the i-th on. -/
theorem ltrsErr_from {ht : Int} {ls : List Ltr} {i : Nat} {l : Ltr} (h : ls[i]? = some l) : ltrsErr ht ((ls.take i).map Ltr.text) (ls.drop i) = if ltrErr ht ((ls.take i).map Ltr.text) l = 0 then ltrsErr ht ((ls.take (i + 1)).map Ltr.text) (ls.drop (i + 1)) else ltrErr ht ((ls.take i).map Ltr.text) l := by
  have hlt : i < ls.length := (List.getElem?_eq_some_iff.1 h).1
  have e : ls.drop i = l :: ls.drop (i + 1) := by
    rw [List.drop_eq_getElem_cons hlt]
    congr 1
    exact (List.getElem?_eq_some_iff.1 h).2
  have e2 : ls.take (i + 1) = ls.take i ++ [l] := by rw [List.take_add_one, h]; rfl
  rw [e, e2, List.map_append]
  rfl

end Go.Proofs.YtjelhdpcaileiaaGreatDoor


/-! slices.Equal of numbers; blank pages; 'pages'. -/
namespace Go.Proofs.YtjelhdpcaileiaaGreatDoor
open Go.RowKit

theorem eq_of_takes (xs ys : List Int) (hl : xs.length = ys.length) (h : ∀ j, j < xs.length → xs[j]? = ys[j]?) : xs = ys := by
  apply List.ext_getElem? 
  intro i
  rcases Nat.lt_or_ge i xs.length with hi | hi
  · exact h i hi
  · rw [List.getElem?_eq_none hi, List.getElem?_eq_none (by omega)]

/-! ### blank pages -/
set_option maxRecDepth 100000 in
set_option maxHeartbeats 400000 in
theorem blank_ok (W H : Nat) (w : World) (hs : sizeErr W H = 0) :
    Calls Tryz.prog 13 #[.int .i64 W, .int .i64 H] w fun e w' =>
      ∃ g, e = .returned (.tuple #[.agg #[.int .i64 W, .int .i64 H, .slice (some ⟨g, 0, none⟩) (W * H) (W * H)], .int .i64 0]) ∧ Blk w' g 4 (Array.replicate (W * H) (.bool false)) ∧ Bl w w' := by
  have hz' := sizeErr_zero hs
  have hWH : (W : Int) * (H : Int) = ((W * H : Nat) : Int) := by simp
  have h1 : (0:Int) ≤ (W:Int) * (H:Int) := by omega
  have h2 : (W:Int) * (H:Int) ≤ 1048576 := by omega
  have hN : W * H ≤ 1048576 := by omega
  have hmk := run_make_row' (P := Tryz.prog) 26 4 (.bool false) 1 Tryz.underlying26 info_bool rfl .i64 .i64 (W * H) (by omega) (by omega)
  rw [← hWH] at hmk
  have hq : (sizeErr W H != 0) = false := by simp [hs]
  have HS := Lib.hid hs; have HWH := Lib.hid hWH
  clear hs hWH
  go_enter Tryz.func13, Tryz.ntmps13
  go_wp2_with (go_at_call 60; refine (checkSize_any _ _ _).mono ?_; rintro e w1 ⟨rfl, rfl⟩)
  have hm : madeCells #[.bool false] (W * H) = Array.replicate (W * H) (.bool false) := by
    apply Array.ext_getElem?
    intro i
    rcases Nat.lt_or_ge i (W * H) with h | h
    · simp [madeCells, h, Nat.mod_one]
    · rw [Array.getElem?_eq_none (by rw [size_madeCells]; exact h), Array.getElem?_eq_none (by simpa using h)]
  rw [hm]
  refine bodyPost_ret (v := .tuple #[.agg #[.int .i64 W, .int .i64 H, .slice (some ⟨w.heap.size + 1, 0, none⟩) (W * H) (W * H)], .int .i64 0]) (by simp [results, Tryz.results13, go_sem]) rfl ⟨_, rfl, ?_, ?_⟩
  · have hb := Blk.new (w.alloc (.cells #[.int .i64 W, .int .i64 H, .slice (some ⟨w.heap.size + 1, 0, none⟩) (W * H) (W * H)] 28)) 4 (Array.replicate (W * H) (.bool false))
    simpa using hb
  · repeat' (first | exact Bl.refl _ | refine Bl.drew ?_ | refine Bl.setCell ?_ (by simp) _ | refine Bl.alloc ?_ _)

set_option maxRecDepth 100000 in
set_option maxHeartbeats 400000 in
theorem blank_bad (W H : Int) (w : World) (hs : sizeErr W H ≠ 0) :
    Calls Tryz.prog 13 #[.int .i64 W, .int .i64 H] w fun e w' =>
      e = .returned (.tuple #[.agg #[.int .i64 0, .int .i64 0, .slice none 0 0], .int .i64 (sizeErr W H)]) ∧ Bl w w' := by
  have hq : (sizeErr W H != 0) = true := by simp [hs]
  clear hs
  go_enter Tryz.func13, Tryz.ntmps13
  go_wp2_with (go_at_call 60; refine (checkSize_any _ _ _).mono ?_; rintro e w1 ⟨rfl, rfl⟩)
  refine bodyPost_ret (v := .tuple #[.agg #[.int .i64 0, .int .i64 0, .slice none 0 0], .int .i64 (sizeErr W H)]) (by simp [results, Tryz.results13, go_sem]) rfl ⟨rfl, ?_⟩
  repeat' (first | exact Bl.refl _ | refine Bl.drew ?_ | refine Bl.setCell ?_ (by simp) _ | refine Bl.alloc ?_ _)

end Go.Proofs.YtjelhdpcaileiaaGreatDoor


/-! page.ToBits, page.ToGray, and the function values of the law on counts. -/
namespace Go.Proofs.YtjelhdpcaileiaaGreatDoor
open Go.RowKit

def lvlErr (W H : Int) (k : Nat) (n : Int) : Int := firstNZ [pageErr W H k, whenI (!inB n 0 256) 3]
theorem lvlErr_zero {W H : Int} {k : Nat} {n : Int} (h : lvlErr W H k n = 0) : pageErr W H k = 0 ∧ (0 ≤ n ∧ n ≤ 256) := by
  unfold lvlErr firstNZ at h
  split at h
  · rename_i h0
    refine ⟨h0, ?_⟩
    cases hi : inB n 0 256
    · rw [hi] at h; simp [firstNZ, whenI] at h
    · exact inB_true.1 hi
  · contradiction
def bitF (zs : List Int) (W : Nat) (level : Int) (x y : Nat) : Bool := decide (vix zs W x y < level)
def grayF (bs : List Bool) (W : Nat) (x y : Nat) : Int := if pix bs W x y then 0 else 255

/-! ### ToGray -/
end Go.Proofs.YtjelhdpcaileiaaGreatDoor


/-! page.counted, Rows, Columns, Histogram. -/
namespace Go.Proofs.YtjelhdpcaileiaaGreatDoor
open Go.RowKit

/-- A table of numbers if the error is 0, nothing else. -/
def TabRes (w : World) (err : Int) (N : Nat) (f : Nat → Int) (P : Option Addr) (m : Nat) : Prop :=
  (err = 0 → m = N ∧ Reads w 1 P m ((tabL m f).map (.int .i64))) ∧ (err ≠ 0 → m = 0 ∧ P = none)
theorem TabRes.bl {w w' : World} {err : Int} {N : Nat} {f : Nat → Int} {P : Option Addr} {m : Nat} (h : TabRes w err N f P m) (hb : Bl w w') : TabRes w' err N f P m :=
  ⟨fun e => ⟨(h.1 e).1, (h.1 e).2.bl hb⟩, h.2⟩
def rowI (bs : List Bool) (W k : Nat) : Int := ((rowN bs W k : Nat) : Int)
def colI (bs : List Bool) (W H k : Nat) : Int := ((colN bs W H k : Nat) : Int)
def valI (zs : List Int) (n k : Nat) : Int := ((cntV zs n k : Nat) : Int)

set_option maxRecDepth 100000 in
set_option maxHeartbeats 2000000 in
theorem counted_any (W H : Nat) (A : Option Addr) (ac : Nat) (bs : List Bool) (many : Nat) (num : Nat → Nat) (kf : FuncId) (cap : Array Value) (w : World) (hA : Reads w 1 A (W * H) (bs.map .bool)) (hbd : W * H ≤ 1048576) (hmany : many ≤ 4000)
    (hent : ∀ args w, (callFunc kf args).run Tryz.prog w = .ok (.enter kf args) w)
    (hnum : ∀ wx (i : Nat), Bl w wx → i < W * H → Calls Tryz.prog kf (#[.int .i64 i] ++ cap) wx fun e w' => e = .returned (.int .i64 ((num i : Nat) : Int)) ∧ Bl wx w') (hlt : ∀ i, i < W * H → num i < many) :
    Calls Tryz.prog 300 #[.agg #[.int .i64 W, .int .i64 H, .slice A (W * H) ac], .int .i64 many, .func (.func kf) #[] cap] w fun e w' =>
      ∃ g, e = .returned (.slice (some ⟨g, 0, none⟩) many many) ∧ w.heap.size ≤ g ∧ Blk w' g 3 (tabI many fun k => ((cntBy bs num (W * H) k : Nat) : Int)) ∧ Bl w w' := by
  let w2 := (w).alloc (.cells #[.int .i64 W, .int .i64 H, .slice A (W * H) ac] 28)
  have w2b : Bl w w2 := (Bl.refl w).alloc _
  have w21 : Blk w2 (w.heap.size) 28 #[.int .i64 W, .int .i64 H, .slice A (W * H) ac] := by
    have h0 := Blk.new (w) 28 #[.int .i64 W, .int .i64 H, .slice A (W * H) ac]
    exact h0
  have k1 := w21.all3
  have lw2 : w2.heap.size = w.heap.size + 1 := by simp [w2]
  have hmk := run_make_row' (P := Tryz.prog) 129 3 (.int .i64 0) 8 Tryz.underlying129 info_int rfl .i64 .i64 many (by omega) (by omega)
  rw [tabI_made] at hmk
  have HA := Lib.hid hA; have Hnum := Lib.hid hnum; have Hlt := Lib.hid hlt
  have start : Blk (w2.alloc (.cells (tabI many fun _ => 0) 3)) (w.heap.size + 1) 3 (tabI many fun k => ((cntBy bs num 0 k : Nat) : Int)) := by
    have := Blk.new w2 3 (tabI many fun _ => 0)
    rw [lw2] at this
    exact this
  have Start := Lib.hid start
  clear hA hnum hlt start
  go_enter Tryz.func300, Tryz.ntmps300
  go_wp2_with fail
  go_loopw [15] (fun u wr => ∃ i : Nat, i ≤ W * H ∧ u = .int .i64 i ∧ Bl w2 wr ∧ Blk wr (w.heap.size + 1) 3 (tabI many fun k => ((cntBy bs num i k : Nat) : Int))) (fun u _ => W * H - (intOf u).toNat)
  case atStart => exact ⟨0, Nat.zero_le _, rfl, (Bl.refl _).alloc _, Start.out⟩
  case round =>
    clear k1
    obtain ⟨i, hi, rfl, hbr, hbo⟩ := hrel
    have k1 := (w21.bl hbr).all3
    by_cases hlt : i < W * H
    · have il : (i : Int) < (W : Int) * (H : Int) := by have := Int.natCast_mul W H; omega
      obtain ⟨ad, ua, eA, hu, hca⟩ := (HA.out.bl (w2b.trans hbr)).at_ hlt
      have hua : ua = .bool (bs.getD i false) := by
        simp only [List.getElem?_map, Option.map_eq_some_iff] at hu
        obtain ⟨b, hb1, hb2⟩ := hu
        rw [← hb2, List.getD, hb1]; rfl
      clear hu
      subst hua eA
      have hst := fun k => cntBy_succ bs num i k
      have hle := fun k => cntBy_le bs num i k
      have hn := Hlt.out i hlt
      have hcall := fun wx h => Hnum.out wx i (w2b.trans h) hlt
      obtain ⟨va, hva⟩ : ∃ v, v = bs.getD i false := ⟨_, rfl⟩
      obtain ⟨a, ha⟩ : ∃ a, a = num i := ⟨_, rfl⟩
      rw [← ha] at hn
      simp only [← ha] at hcall hst
      simp only [← hva] at hst hca
      have Hst := Lib.hid hst; have Hle := Lib.hid hle; have Hcall := Lib.hid hcall
      clear hst hle hcall hva ha
      cases va
      · have hsame : tabI many (fun k => ((cntBy bs num i k : Nat) : Int)) = tabI many (fun k => ((cntBy bs num (i + 1) k : Nat) : Int)) :=
          tabI_congr fun k _ => by rw [Hst.out k]; simp [b1]
        rw [hsame] at hbo
        clear hsame
        go_wp2_with fail
        exact ⟨⟨i + 1, hlt, by go_num, hbr, hbo⟩, by simp [intOf]; omega⟩
      · go_wp2_with fail
        refine (Hcall.out _ hbr).mono ?_
        rintro e w4 ⟨rfl, hb4⟩
        have hbr4 := hbr.trans hb4
        have hbo4 := hbo.bl hb4
        have kc := hbo4.tabAt hn
        have kf := hbo4.frozen a
        have hset := hbo4.tabSet (f' := fun k => ((cntBy bs num (i + 1) k : Nat) : Int)) a (((cntBy bs num i a : Nat) : Int) + 1) (fun k hk => by
          rw [Hst.out k]
          by_cases e : k = a
          · subst e; simp [b1]
          · have : ¬ (a = k) := fun h => e h.symm
            simp [e, this, b1])
        have hcb := Hle.out a
        obtain ⟨c, hc⟩ : ∃ c, c = cntBy bs num i a := ⟨_, rfl⟩
        rw [← hc] at kc hset hcb
        have Hset := Lib.hid hset
        clear hset hc k1
        go_wp2_with fail
        exact ⟨⟨i + 1, hlt, by go_num, hbr4.setCell (by simp; omega) _, Hset.out⟩, by simp [intOf]; omega⟩
    · obtain rfl : i = W * H := by omega
      go_wp2_with fail
      go_ret
      exact ⟨_, rfl, by omega, hbo, w2b.trans hbr⟩

set_option maxHeartbeats 400000 in
theorem columns1_any (p W : Nat) (H : Int) (v : Value) (i : Nat) (w : World) (hp : Blk w p 28 #[.int .i64 W, .int .i64 H, v]) (hW : 1 ≤ W ∧ W ≤ 4000) (hi : i ≤ 1048576) :
    Calls Tryz.prog 301 #[.int .i64 i, .pointer (some ⟨p, 0, none⟩)] w fun e w' => e = .returned (.int .i64 ((i % W : Nat) : Int)) ∧ Bl w w' := by
  have kp := hp.all3
  have hWp : ¬ (W = 0) := by omega
  obtain ⟨q, hq⟩ : ∃ q, q = i % W := ⟨_, rfl⟩
  have e1 : (i : Int) % (W : Int) = (q : Int) := by rw [hq]; simp
  have e2 := hq.symm
  have hqb : q ≤ i := by rw [hq]; first | exact Nat.div_le_self _ _ | exact Nat.mod_le _ _
  rw [← hq]
  clear hq
  go_enter Tryz.func301, Tryz.ntmps301
  go_wp2_with fail
  go_ret
  exact ⟨by first | rfl | exact ret_int e1, Bl.refl _⟩
set_option maxRecDepth 100000 in
set_option maxHeartbeats 1000000 in
theorem columns_any (W H : Int) (A : Option Addr) (an ac : Nat) (bs : List Bool) (w : World) (hA : Reads w 1 A an (bs.map .bool)) :
    Calls Tryz.prog 232 #[.agg #[.int .i64 W, .int .i64 H, .slice A an ac]] w fun e w' =>
      ∃ P m c, e = .returned (.tuple #[.slice P m c, .int .i64 (pageErr W H an)]) ∧ TabRes w' (pageErr W H an) W.toNat (colI bs W.toNat H.toNat) P m ∧ Bl w w' := by
  let w2 := (w).alloc (.cells #[.int .i64 W, .int .i64 H, .slice A an ac] 28)
  have w2b : Bl w w2 := (Bl.refl w).alloc _
  have w21 : Blk w2 (w.heap.size) 28 #[.int .i64 W, .int .i64 H, .slice A an ac] := by
    have h0 := Blk.new (w) 28 #[.int .i64 W, .int .i64 H, .slice A an ac]
    exact h0
  have k1 := w21.all3
  by_cases hp : pageErr W H an = 0
  · have hz := sizeErr_zero (pageErr_zero hp).1
    have Hp := Lib.hid hp
    obtain ⟨W, H, rfl, rfl, rfl, u1, u2, u3⟩ := page_nat hp
    have hW : 1 ≤ W ∧ W ≤ 4000 := by omega
    have HA := Lib.hid (hA.bl w2b)
    clear hz hA
    have ent := enters Tryz.func301 (by kernel_rfl) rfl
    go_enter Tryz.func232, Tryz.ntmps232
    go_wp2_with fail
    refine (checkBits_any _ _ _ _ _ _).mono ?_
    rintro e w3 ⟨rfl, hb3⟩
    have k3 := (w21.bl hb3).all3
    clear k1
    go_wp2_with fail
    refine (counted_any W H A ac bs W (fun i => i % W) 301 #[.pointer (some ⟨w.heap.size, 0, none⟩)] _ (HA.out.bl hb3) u3 (by omega) ent
      (fun wx i hb hi => columns1_any _ W H _ i wx ((w21.bl hb3).bl hb) hW (by omega)) (fun i hi => (place_parts hi).1)).mono ?_
    rintro e w4 ⟨g, rfl, hg, hbk, hb4⟩
    have e : tabI W (fun k => ((cntBy bs (fun i => i % W) (W * H) k : Nat) : Int)) = tabI W (colI bs W H) := tabI_congr fun k hk => by rw [cntBy_cols bs W H k hk]; rfl
    rw [e] at hbk
    have hp := Hp.out
    go_wp2_with fail
    refine bodyPost_ret (v := .tuple #[.slice (some ⟨g, 0, none⟩) W W, .int .i64 0]) (by simp [results, Tryz.results232, go_sem]) rfl ⟨_, _, _, by rw [hp], ⟨fun _ => ⟨by simp, ?_⟩, fun h => absurd hp h⟩, (w2b.trans hb3).trans hb4⟩
    simpa using hbk.tabReads
  · have hq : (pageErr W H an != 0) = true := by simp [hp]
    have Hp := Lib.hid hp
    clear hp
    go_enter Tryz.func232, Tryz.ntmps232
    go_wp2_with fail
    refine (checkBits_any _ _ _ _ _ _).mono ?_
    rintro e w3 ⟨rfl, hb3⟩
    go_wp2_with fail
    refine bodyPost_ret (v := .tuple #[.slice none 0 0, .int .i64 (pageErr W H an)]) (by simp [results, Tryz.results232, go_sem]) rfl ⟨_, _, _, rfl, ⟨fun h => absurd h Hp.out, fun _ => ⟨rfl, rfl⟩⟩, w2b.trans hb3⟩

/-! ### Histogram -/
end Go.Proofs.YtjelhdpcaileiaaGreatDoor


/-! bedref2.InkOf, RowsOf, ColumnsOf, Ends, BoundsOf. -/
namespace Go.Proofs.YtjelhdpcaileiaaGreatDoor
open Go.RowKit

set_option maxRecDepth 100000 in
set_option maxHeartbeats 4000000 in
theorem inkOf_any (W H X Y BW BH : Nat) (A : Option Addr) (ac : Nat) (bs : List Bool) (w : World) (hA : Reads w 1 A (W * H) (bs.map .bool)) (hW : W ≤ 4000) (hH : H ≤ 4000) (hX : X + BW ≤ W) (hY : Y + BH ≤ H) :
    Calls Tryz.prog 154 #[.agg #[.int .i64 W, .int .i64 H, .slice A (W * H) ac], .agg #[.int .i64 X, .int .i64 Y, .int .i64 BW, .int .i64 BH]] w fun e w' => e = .returned (.int .i64 (inkN bs W X Y BW BH)) ∧ Bl w w' := by
  let w2 := ((w).alloc (.cells #[.int .i64 W, .int .i64 H, .slice A (W * H) ac] 28)).alloc (.cells #[.int .i64 X, .int .i64 Y, .int .i64 BW, .int .i64 BH] 81)
  have w2b : Bl w w2 := ((Bl.refl w).alloc _).alloc _
  have w21 : Blk w2 (w.heap.size) 28 #[.int .i64 W, .int .i64 H, .slice A (W * H) ac] := by
    have h0 := Blk.new (w) 28 #[.int .i64 W, .int .i64 H, .slice A (W * H) ac]
    exact (h0.alloc _)
  have w22 : Blk w2 (w.heap.size + 1) 81 #[.int .i64 X, .int .i64 Y, .int .i64 BW, .int .i64 BH] := by
    have h0 := Blk.new ((w).alloc (.cells #[.int .i64 W, .int .i64 H, .slice A (W * H) ac] 28)) 81 #[.int .i64 X, .int .i64 Y, .int .i64 BW, .int .i64 BH]
    simp only [World.size_alloc] at h0
    exact h0
  have k2 := w22.all4
  have HA := Lib.hid (hA.bl w2b)
  clear hA
  go_enter Tryz.func154, Tryz.ntmps154
  go_wp2_with fail
  go_loopw [5, 6] (fun n u wr => ∃ j : Nat, j ≤ BH ∧ u = .int .i64 ((Y : Int) + j) ∧ n = .int .i64 (inkN bs W X Y BW j) ∧ Bl w2 wr) (fun _ u _ => Y + BH - (intOf u).toNat)
  case atStart => exact ⟨0, Nat.zero_le _, by simp, rfl, Bl.refl _⟩
  case round =>
    clear k2
    obtain ⟨j, hj, rfl, rfl, hbr⟩ := hrel
    have k2 := (w22.bl hbr).all4
    by_cases hlt : j < BH
    · have d1 : (Y : Int) + (j : Int) < (Y : Int) + (BH : Int) := by omega
      go_wp2_with fail
      go_loopw [5, 7] (fun n u wr => ∃ i : Nat, i ≤ BW ∧ u = .int .i64 ((X : Int) + i) ∧ n = .int .i64 (((inkN bs W X Y BW j + sumN (fun i => b1 (pix bs W (X + i) (Y + j))) i : Nat)) : Int) ∧ Bl w2 wr) (fun _ u _ => X + BW - (intOf u).toNat)
      case atStart => exact ⟨0, Nat.zero_le _, by simp, rfl, hbr⟩
      case round =>
        clear k2 hbr
        rename_i wo _ _ _
        obtain ⟨i, hi, rfl, rfl, hbr⟩ := hrel
        have k1 := (w21.bl hbr).all3
        have k2 := (w22.bl hbr).all4
        by_cases hlt2 : i < BW
        · have d2 : (X : Int) + (i : Int) < (X : Int) + (BW : Int) := by omega
          have hat := at_any W H A ac bs (((X + i : Nat)) : Int) (((Y + j : Nat)) : Int) wr (HA.out.bl hbr) hW hH
          rw [atI_in bs W H (X + i) (Y + j) (by omega) (by omega)] at hat
          have hst : sumN (fun i => b1 (pix bs W (X + i) (Y + j))) (i + 1) = sumN (fun i => b1 (pix bs W (X + i) (Y + j))) i + b1 (pix bs W (X + i) (Y + j)) := rfl
          have hle : sumN (fun i => b1 (pix bs W (X + i) (Y + j))) i ≤ i * 1 := sumN_le (fun _ => b1_le _) i
          have hle2 : inkN bs W X Y BW j ≤ j * BW := sumN_le (fun k => by have := sumN_le (f := fun i => b1 (pix bs W (X + i) (Y + k))) (c := 1) (fun _ => b1_le _) BW; simpa using this) j
          have hle3 := Nat.mul_le_mul (show j ≤ 4000 by omega) (show BW ≤ 4000 by omega)
          obtain ⟨n, hn⟩ : ∃ n, n = sumN (fun i => b1 (pix bs W (X + i) (Y + j))) i := ⟨_, rfl⟩
          obtain ⟨va, hva⟩ : ∃ v, v = pix bs W (X + i) (Y + j) := ⟨_, rfl⟩
          obtain ⟨q, hq⟩ : ∃ q, q = inkN bs W X Y BW j := ⟨_, rfl⟩
          rw [← hn, ← hva] at hst
          rw [← hn] at hle ⊢
          rw [← hva] at hat
          rw [← hq] at hle2 ⊢
          have ex : (((X + i : Nat)) : Int) = (X : Int) + (i : Int) := by simp
          have ey : (((Y + j : Nat)) : Int) = (Y : Int) + (j : Int) := by simp
          rw [ex, ey] at hat
          have Hat := Lib.hid hat; have Hst := Lib.hid hst; have Hq := Lib.hid hq
          clear hat hst hn hva ex ey hq
          cases va
          all_goals
            go_wp2_with fail
            refine Hat.out.mono ?_
            rintro e w1 ⟨rfl, hb1⟩
            go_wp2_with fail
            exact ⟨⟨i + 1, hlt2, by go_num, by rw [Hst.out]; first | (congr 1; done) | (congr 1; simp [b1]; done) | (congr 1; simp [b1]; omega), hbr.trans hb1⟩, by simp [intOf]; omega⟩
        · obtain rfl : i = BW := by omega
          go_wp2_with fail
          exact ⟨⟨j + 1, hlt, by go_num, rfl, hbr⟩, by simp [intOf]; omega⟩
    · obtain rfl : j = BH := by omega
      go_wp2_with fail
      go_ret
      exact ⟨rfl, w2b.trans hbr⟩

set_option maxRecDepth 100000 in
set_option maxHeartbeats 2000000 in
theorem columnsOf_any (W H : Nat) (A : Option Addr) (ac : Nat) (bs : List Bool) (w : World) (hA : Reads w 1 A (W * H) (bs.map .bool)) (hW : W ≤ 4000) (hH : H ≤ 4000) :
    Calls Tryz.prog 78 #[.agg #[.int .i64 W, .int .i64 H, .slice A (W * H) ac]] w fun e w' => ∃ P c, e = .returned (.slice P W c) ∧ Reads w' 1 P W ((tabL W (colI bs W H)).map (.int .i64)) ∧ Bl w w' := by
  let w2 := (w).alloc (.cells #[.int .i64 W, .int .i64 H, .slice A (W * H) ac] 28)
  have w2b : Bl w w2 := (Bl.refl w).alloc _
  have w21 : Blk w2 (w.heap.size) 28 #[.int .i64 W, .int .i64 H, .slice A (W * H) ac] := by
    have h0 := Blk.new (w) 28 #[.int .i64 W, .int .i64 H, .slice A (W * H) ac]
    exact h0
  have k1 := w21.all3
  have lw2 : w2.heap.size = w.heap.size + 1 := by simp [w2]
  have HA := Lib.hid (hA.bl w2b)
  have ho0 : w2.ownsRow (w.heap.size + 1) 3 1 (.slice none 0 0) 0 ((tabL 0 (colI bs W H)).map (.int .i64)) := World.ownsRow_nil _ _ _ _
  have Ho0 := Lib.hid ho0
  clear hA ho0
  go_enter Tryz.func78, Tryz.ntmps78
  go_wp2_with fail
  go_loopw [3, 7] (fun v u wr => ∃ k : Nat, k ≤ W ∧ u = .int .i64 k ∧ Bl w2 wr ∧ wr.ownsRow (w.heap.size + 1) 3 1 v k ((tabL k (colI bs W H)).map (.int .i64))) (fun _ u _ => W - (intOf u).toNat)
  case atStart => exact ⟨0, Nat.zero_le _, rfl, Bl.refl _, Ho0.out⟩
  case round =>
    clear k1
    obtain ⟨k, hk, rfl, hbr, hown⟩ := hrel
    have k1 := (w21.bl hbr).all3
    by_cases hlt : k < W
    · have hcall := inkOf_any W H k 0 1 H A ac bs wr (HA.out.bl hbr) hW hH (by omega) (by omega)
      rw [ink_col] at hcall
      have htl : (tabL (k + 1) (colI bs W H)).map (Value.int .i64) = (tabL k (colI bs W H)).map (Value.int .i64) ++ [Value.int .i64 ((colI bs W H) k)] := by simp [tabL, List.range_succ]
      have Hcall := Lib.hid hcall; have Htl := Lib.hid htl
      clear hcall htl
      go_wp2_with fail
      refine Hcall.out.mono ?_
      rintro e w1 ⟨rfl, hb1⟩
      have hown1 := own_bl hown hb1
      have hbr1 := hbr.trans hb1
      clear hown
      go_wp2_with (at_builtin; refine wpList_append_one rfl (.tmp 10) (.tmp 17) 129 rfl 3 (.int .i64 0) 8 Tryz.underlying129 info_int rfl (w.heap.size + 1) _ _ _ rfl _ rfl rfl hbr1 (by omega) (by have := hbr1.le; omega) hown1 (by omega) (by unfold maxLen; omega) ?_; intro v' w' hown' hb' _)
      exact ⟨⟨k + 1, hlt, by go_num, hb', by rw [Htl.out]; exact hown'⟩, by simp [intOf]; omega⟩
    · obtain rfl : k = W := by omega
      obtain ⟨P, c, rfl, hp⟩ := own_reads hown
      go_wp2_with fail
      go_ret
      exact ⟨_, _, rfl, hp, w2b.trans hbr⟩

/-! ### Ends -/
end Go.Proofs.YtjelhdpcaileiaaGreatDoor


/-! What holds of a font whose error is 0. -/
namespace Go.Proofs.YtjelhdpcaileiaaGreatDoor
open Go.RowKit

theorem firstNZ_zero {es : List Int} (h : firstNZ es = 0) : ∀ e ∈ es, e = 0 := by
  induction es with
  | nil => intro e he; cases he
  | cons x es ih =>
    have h' : (if x = 0 then firstNZ es else x) = 0 := h
    by_cases h0 : x = 0
    · rw [if_pos h0] at h'
      intro e he
      rcases List.mem_cons.1 he with rfl | he
      · exact h0
      · exact ih h' e he
    · rw [if_neg h0] at h'
      exact absurd h' h0
theorem whenI_zero {b : Bool} {n : Int} (h : whenI b n = 0) (hn : n ≠ 0) : b = false := by
  cases b
  · rfl
  · exact absurd h hn
theorem ltrsErr_zero {ht : Int} {ls : List Ltr} : ∀ {prev : List (List UInt8)}, ltrsErr ht prev ls = 0 → ∀ l ∈ ls, textB l.text = true ∧ pageErr l.W l.H l.m = 0 ∧ l.H = ht ∧ l.W ≤ 64 := by
  induction ls with
  | nil => intro prev _ l hl; cases hl
  | cons x ls ih =>
    intro prev h l hl
    have h' : (if ltrErr ht prev x = 0 then ltrsErr ht (prev ++ [x.text]) ls else ltrErr ht prev x) = 0 := h
    by_cases h0 : ltrErr ht prev x = 0
    · rw [if_pos h0] at h'
      rcases List.mem_cons.1 hl with rfl | hl
      · have hz := firstNZ_zero h0
        have k1 := whenI_zero (hz _ (by simp : whenI (!textB l.text) 2 ∈ _)) (by decide)
        have k2 := hz (pageErr l.W l.H l.m) (by simp)
        have k3 := whenI_zero (hz (whenI (l.H != ht) 11) (by simp)) (by decide)
        have k4 := whenI_zero (hz (whenI (decide (64 < l.W)) 4) (by simp)) (by decide)
        refine ⟨by simpa using k1, k2, by simpa using k3, ?_⟩
        have := of_decide_eq_false k4
        omega
      · exact ih h' l hl
    · rw [if_neg h0] at h'
      exact absurd h' h0
theorem fontErr_zero {nm : Bool} {ht gap sp : Int} {ls : List Ltr} (h : fontErr nm ht gap sp ls = 0) : (nm = true ∧ rangeB ht gap sp = true ∧ gap < sp ∧ ls.length ≠ 0 ∧ ls.length ≤ 200 ∧ 1 ≤ ht ∧ ht ≤ 64) ∧ ∀ l ∈ ls, textB l.text = true ∧ pageErr l.W l.H l.m = 0 ∧ l.H = ht ∧ l.W ≤ 64 := by
  have h' : (if fontHead nm ht gap sp ls.length = 0 then ltrsErr ht [] ls else fontHead nm ht gap sp ls.length) = 0 := h
  by_cases h0 : fontHead nm ht gap sp ls.length = 0
  · rw [if_pos h0] at h'
    refine ⟨?_, ltrsErr_zero h'⟩
    have hz := firstNZ_zero h0
    have k1 := whenI_zero (hz (whenI (!nm) 5) (by simp)) (by decide)
    have k2 := whenI_zero (hz (whenI (!rangeB ht gap sp) 3) (by simp)) (by decide)
    have k3 := of_decide_eq_false (whenI_zero (hz (whenI (decide (sp ≤ gap)) 7) (by simp)) (by decide))
    have k4 := of_decide_eq_false (whenI_zero (hz (whenI (decide (ls.length = 0)) 9) (by simp)) (by decide))
    have k5 := of_decide_eq_false (whenI_zero (hz (whenI (decide (200 < ls.length)) 4) (by simp)) (by decide))
    have k2' : rangeB ht gap sp = true := by simpa using k2
    have k6 : inB ht 1 64 = true := by
      unfold rangeB at k2'
      simp only [Bool.and_eq_true] at k2'
      exact k2'.1
    have k7 := inB_true.1 k6
    exact ⟨by simpa using k1, k2', by omega, k4, by omega, k7.1, k7.2⟩
  · rw [if_neg h0] at h'
    exact absurd h' h0

end Go.Proofs.YtjelhdpcaileiaaGreatDoor


/-! Rows that a call owns, and rows that lie: cells that are set, rows that grow. -/
namespace Go.Proofs.YtjelhdpcaileiaaGreatDoor
open Go.RowKit

theorem ownsRow_set {w : World} {base : Nat} {e : TypeId} {size n g cap : Nat} {xs : List Value} (h : w.ownsRow base e size (.slice (some ⟨g, 0, none⟩) n cap) n xs) (j : Nat) (u : Value) : (w.setCell ⟨g, j, none⟩ u).ownsRow base e size (.slice (some ⟨g, 0, none⟩) n cap) n (xs.set j u) := by
  refine ⟨by rw [List.length_set]; exact h.1, ?_⟩
  rcases h.2 with ⟨hv, _⟩ | ⟨g', cap', cur, hv, hb, hg, hn, hc, hs, ht⟩
  · cases hv
  · injection hv with h1 h2 h3
    injection h1 with h1
    injection h1 with h1
    subst h1
    subst h3
    refine .inr ⟨g, cap, cur.setIfInBounds j u, rfl, hb, ?_, hn, hc, by simpa using hs, ?_⟩
    · simp [World.setCell, Array.getElem?_modify, hg]
    · rw [Array.toList_setIfInBounds, List.take_set, ht]
theorem add_flat (g i : Nat) : (⟨g, 0, none⟩ : Addr).add i = ⟨g, i, none⟩ := by unfold Addr.add; split <;> simp_all
theorem Reads.lt {w : World} {A : Option Addr} {n : Nat} {xs : List Value} (h : Reads w 1 A n xs) : ∀ a, A = some a → 0 < n → a.block < w.heap.size := fun a ha hn => by
  obtain ⟨ad, u, e, -, hc⟩ := h.at_ hn
  rw [ha] at e
  injection e with e
  subst e
  have := World.block_lt_of_cell? w _ hc
  rwa [block_of_add] at this
theorem Reads.far {w : World} {size n : Nat} {A : Option Addr} {xs : List Value} (h : Reads w size A n xs) {p : Addr} (hn : ∀ a, A = some a → 0 < n → a.block ≠ p.block) (u : Value) : Reads (w.setCell p u) size A n xs :=
  ⟨h.1, fun hk => by
    obtain ⟨ad, e, hc⟩ := h.2 hk
    exact ⟨ad, e, fun j x hx => by rw [World.cell?_setCell_other w p _ u (fun e' => by have h1 := hn ad e hk; have h2 := congrArg Addr.block e'; rw [block_of_add] at h2; omega)]; exact hc j x hx⟩⟩
theorem Reads.grown {w w' : World} {n : Nat} {A : Option Addr} {xs : List Value} {row : Option Nat} (h : Reads w 1 A n xs) (hb : w.grownBy w' row) (hn : ∀ a, A = some a → 0 < n → some a.block ≠ row) : Reads w' 1 A n xs :=
  ⟨h.1, fun hk => by
    obtain ⟨ad, e, hc⟩ := h.2 hk
    refine ⟨ad, e, fun j x hx => ?_⟩
    rw [World.cell?_of_block (hb.block _ (by rw [block_of_add]; exact h.lt ad e hk) (by rw [block_of_add]; exact hn ad e hk))]
    exact hc j x hx⟩
theorem own_some {w : World} {base : Nat} {e : TypeId} {size n : Nat} {v : Value} {xs : List Value} (h : w.ownsRow base e size v n xs) (hn : 0 < n) : ∃ g cap, v = .slice (some ⟨g, 0, none⟩) n cap ∧ base ≤ g ∧ n ≤ cap := by
  rcases h.2 with ⟨-, h0⟩ | ⟨g, cap, cur, rfl, hb, -, hc, -⟩
  · omega
  · exact ⟨g, cap, rfl, hb, hc⟩
theorem own_lt {w : World} {base : Nat} {e : TypeId} {size n g cap : Nat} {xs : List Value} (h : w.ownsRow base e size (.slice (some ⟨g, 0, none⟩) n cap) n xs) : g < w.heap.size := by
  rcases h.2 with ⟨hv, -⟩ | ⟨g', cap', cur, hv, -, hg, -⟩
  · cases hv
  · injection hv with h1 h2 h3
    injection h1 with h1
    injection h1 with h1
    subst h1
    exact (Array.getElem?_eq_some_iff.1 hg).1
theorem own_blk {w : World} {base : Nat} {e : TypeId} {size n g cap : Nat} {xs : List Value} (h : w.ownsRow base e size (.slice (some ⟨g, 0, none⟩) n cap) n xs) : (∀ j, j < n * size → ∃ v, w.cell? ⟨g, j, none⟩ = some v) ∧ ∀ j, w.frozen? ⟨g, j, none⟩ = false := by
  rcases h.2 with ⟨hv, -⟩ | ⟨g', cap', cur, hv, -, hg, hn, -, hs, -⟩
  · cases hv
  · injection hv with h1 h2 h3
    injection h1 with h1
    injection h1 with h1
    subst h1
    subst h3
    have hb : Blk w g e cur := hg
    refine ⟨fun j hj => ?_, hb.frozen⟩
    have hlt : j < cur.size := by have := Nat.mul_le_mul_right size hn; omega
    exact ⟨cur[j], by rw [hb.cell]; exact Array.getElem?_eq_getElem hlt⟩
theorem page_ok {W H : Nat} (h1 : 1 ≤ W) (h2 : W ≤ 4000) (h3 : 1 ≤ H) (h4 : H ≤ 4000) (h5 : W * H ≤ 1048576) : pageErr (W : Int) (H : Int) (W * H) = 0 := by
  have e := Int.natCast_mul W H
  have hs : sizeErr (W : Int) (H : Int) = 0 := by
    unfold sizeErr
    rw [if_pos (by omega), if_neg (by omega)]
  unfold pageErr
  rw [if_pos hs, if_pos (by omega)]

end Go.Proofs.YtjelhdpcaileiaaGreatDoor


/-! A region whose order is open, walked in one order, by a predicate that every operation keeps (all that lay in a world of one's choosing lies as it did). No condition. -/
namespace Go.Proofs.YtjelhdpcaileiaaGreatDoor
open Go.RowKit

section
variable {P : Program} {ops : Array Oper} {Q : Exit → Act → World → Prop} {md : Region.Mode} {S : World → Prop}

def wpAnyS (P : Program) (md : Region.Mode) (ops : Array Oper) (Q : Exit → Act → World → Prop) (S : World → Prop) : Nat → Array Bool → Act → World → Prop
  | 0, listed, a, w => Region.ready md ops listed = [] ∧ Q .normal a w
  | fuel + 1, listed, a, w =>
    (Region.ready md ops listed = [] → Q .normal a w) ∧
    ∀ i ∈ Region.ready md ops listed, wpOp P ops Q i (fun a' w' => S w' ∧ wpAnyS P md ops Q S fuel (listed.setIfInBounds i true) a' w') a w

theorem wpAny_of_S : ∀ (fuel : Nat) (listed : Array Bool) (a : Act) (w : World), wpAnyS P md ops Q S fuel listed a w → wpAny P md ops Q fuel listed a w
  | 0, _, _, _, h => h
  | fuel + 1, _, _, _, h => ⟨h.1, fun i hi => wpOp_mono (fun a' w' h' => wpAny_of_S fuel _ a' w' h'.2) (h.2 i hi)⟩

theorem wpAnyS_first {i : Nat} {oi : Oper} {v : Value} (hi : ops[i]? = some oi) (hsel : ∀ (j : Nat) (o : Oper) cs b, ops[j]? = some o → o.op ≠ .select cs b)
    (hQ : ∀ c a w, Q (.panic c) (a.put oi.dst v) w → Q (.panic c) a w) :
    ∀ (fuel : Nat) (listed : Array Bool) (a : Act) (w : World), listed.size = ops.size → DownClosed md ops listed →
      (∀ j oj, ops[j]? = some oj → j ≠ i → listed.getD j true = false → (∀ e ∈ oj.after, Region.binds md e = true → e.on ≠ i) → oi.apart ops oj = true) →
      i ∈ Region.ready md ops listed → S w → YieldsIf P ops S oi v a →
      wpAnyS P md ops Q S fuel (listed.setIfInBounds i true) (a.put oi.dst v) w → wpAnyS P md ops Q S (fuel + 1) listed a w := by
  intro fuel
  induction fuel with
  | zero =>
    intro listed a w _ _ _ hr hS hy H
    refine ⟨fun h => (by rw [h] at hr; cases hr), fun j hj => ?_⟩
    by_cases hji : j = i
    · subst hji; exact hy.wpOp hi hS ⟨hS, H⟩
    · have := ready_mono hj hji
      rw [H.1] at this
      cases this
  | succ fuel ih =>
    intro listed a w hsz hdc hfree hr hS hy H
    refine ⟨fun h => (by rw [h] at hr; cases hr), fun j hj => ?_⟩
    by_cases hji : j = i
    · subst hji; exact hy.wpOp hi hS ⟨hS, H⟩
    · have h1 := H.2 j (ready_mono hj hji)
      obtain ⟨hjun, oj, hoj, hall⟩ := mem_ready.1 hj
      have hun0 : listed.getD i false = false := by
        have h0 := (mem_ready.1 hr).1
        rcases Nat.lt_or_ge i listed.size with h' | h'
        · simp [h'] at h0 ⊢; exact h0
        · simp [Array.getElem?_eq_none h']
      have hnot : ∀ e ∈ oj.after, Region.binds md e = true → e.on ≠ i := fun e he hb heq => by
        have h1 := hall e he hb
        rw [heq, hun0] at h1
        cases h1
      have h2 := wpOp_putIf hoj (hfree j oj hoj hji hjun hnot) (fun cs b => hsel i oi cs b hi) (fun cs b => hsel j oj cs b hoj) hQ hy h1
      have hun' : ∀ k, (listed.setIfInBounds j true).getD k true = false → listed.getD k true = false := fun k hun => by
        by_cases hjk : j = k
        · subst hjk; exact hjun
        · rw [getD_set_ne true hjk] at hun; exact hun
      refine wpOp_mono (fun a' w' h3 => ⟨h3.2.1, ih (listed.setIfInBounds j true) a' w' (by simpa using hsz) (hdc.set hj)
        (fun k ok hk hki hun hno => hfree k ok hk hki (hun' k hun) hno) (ready_mono hr (Ne.symm hji)) h3.2.1 h3.1 (by rw [Array.setIfInBounds_comm _ _ hji]; exact h3.2.2)⟩) h2

/-- In one order: 'true': what yields in every world that S holds of; 'false': whatever else. -/
def FlowS (P : Program) (ops : Array Oper) (Q : Exit → Act → World → Prop) (S : World → Prop) : List (Bool × Nat) → Act → World → Prop
  | [], a, w => Q .normal a w
  | (true, i) :: σ, a, w => ∃ o v, ops[i]? = some o ∧ YieldsIf P ops S o v a ∧ FlowS P ops Q S σ (a.put o.dst v) w
  | (false, i) :: σ, a, w => wpOp P ops Q i (fun a' w' => S w' ∧ FlowS P ops Q S σ a' w') a w

def flowOkS (md : Region.Mode) (ops : Array Oper) : List (Bool × Nat) → Array Bool → Bool
  | [], listed => (Region.ready md ops listed).isEmpty
  | (true, i) :: σ, listed => (Region.ready md ops listed).contains i && Region.free md ops listed i && flowOkS md ops σ (listed.setIfInBounds i true)
  | (false, i) :: σ, listed => Region.ready md ops listed == [i] && flowOkS md ops σ (listed.setIfInBounds i true)

theorem flowS_sound (hs : Region.noSelect ops = true) (hQ : ∀ c a d v w, Q (.panic c) (Act.put a d v) w → Q (.panic c) a w) :
    ∀ (σ : List (Bool × Nat)) (fuel : Nat) (listed : Array Bool) (a : Act) (w : World), listed.size = ops.size → DownClosed md ops listed → σ.length ≤ fuel → flowOkS md ops σ listed = true → S w →
      FlowS P ops Q S σ a w → wpAnyS P md ops Q S fuel listed a w := by
  intro σ
  induction σ with
  | nil =>
    intro fuel listed a w _ _ _ hok _ h
    have hr : Region.ready md ops listed = [] := by simpa [flowOkS] using hok
    cases fuel with
    | zero => exact ⟨hr, h⟩
    | succ fuel => exact ⟨fun _ => h, fun i hi => by rw [hr] at hi; cases hi⟩
  | cons s σ ih =>
    obtain ⟨b, i⟩ := s
    intro fuel listed a w hsz hdc hf hok hS h
    cases fuel with
    | zero => simp at hf
    | succ fuel =>
      have hf' : σ.length ≤ fuel := by simpa using hf
      cases b with
      | true =>
        simp only [flowOkS, Bool.and_eq_true] at hok
        obtain ⟨⟨h1, h2⟩, h4⟩ := hok
        obtain ⟨o, v, ho, hy, hfl⟩ := h
        have hir : i ∈ Region.ready md ops listed := by simpa using h1
        exact wpAnyS_first ho (Region.noSelect_spec hs) (fun c a w => hQ c a o.dst v w) fuel listed a w hsz hdc (Region.free_spec ho h2) hir hS hy (ih fuel _ _ _ (by simpa using hsz) (hdc.set hir) hf' h4 hS hfl)
      | false =>
        simp only [flowOkS, Bool.and_eq_true, beq_iff_eq] at hok
        obtain ⟨h1, h4⟩ := hok
        refine ⟨fun h0 => (by rw [h0] at h1; cases h1), fun j hj => ?_⟩
        have hj0 := hj
        rw [h1] at hj
        obtain rfl := List.mem_singleton.1 hj
        exact wpOp_mono (fun a' w' h' => ⟨h'.1, ih fuel _ _ _ (by simpa using hsz) (hdc.set hj0) hf' h4 h'.1 h'.2⟩) h

/-- **THE BEGINNING.** -/
theorem wp_region_flowS {id : Nat} {a : Act} {w : World} (S : World → Prop) (σ : List (Bool × Nat)) (hm : P.follows .mixedOrders = true) (hs : Region.noSelect ops = true)
    (hl : decide (σ.length ≤ ops.size) = true) (hok : flowOkS .any ops σ (Array.replicate ops.size false) = true) (hS : S w.drew)
    (h : FlowS P ops (NoPanic Q) S σ a w.drew) : (Code.region id ops true).wp P Q a w :=
  wp_region_noPanic (wp_region_any hm (wpAny_of_S _ _ _ _ (flowS_sound hs noPanic_put σ _ _ _ _ (by simp) downClosed_start (of_decide_eq_true hl) hok hS h)))

section
variable {l : List Oper} {B : World}
theorem FlowS.calm {i : Nat} {o : Oper} {σ : List (Bool × Nat)} {a : Act} {w : World} (v : Value) (ho : l[i]? = some o) (hg : o.guard = none)
    (hr : ∀ w', S w' → (execOp a.eval o).run P w' = .ok (.value v) w') (h : FlowS P l.toArray Q S σ (a.put o.dst v) w) : FlowS P l.toArray Q S ((true, i) :: σ) a w :=
  ⟨o, v, by simpa using ho, .inl ⟨by simp [Region.wanted, hg], hr⟩, h⟩
theorem FlowS.calm2 {i : Nat} {o : Oper} {σ : List (Bool × Nat)} {a : Act} {w : World} (v : Value) (a' : Act) (ho : l[i]? = some o) (hg : o.guard = none)
    (hr : ∀ w', S w' → ∀ K : Result Next → Prop, K (.ok (.value v) w') → K ((execOp a.eval o).run P w')) (ha : ∀ K : Act → Prop, K a' → K (a.put o.dst v))
    (h : FlowS P l.toArray Q S σ a' w) : FlowS P l.toArray Q S ((true, i) :: σ) a w :=
  FlowS.calm v ho hg (fun w' hb => hr w' hb (fun r => r = .ok (.value v) w') rfl) (ha (fun x => FlowS P l.toArray Q S σ x w) h)
theorem FlowS.mv {i : Nat} {d : Option Tmp} {x : Operand} {ty : TypeId} {ps : String} {af : Array Edge} {σ : List (Bool × Nat)} {a : Act} {w : World} (a' : Act) (ho : l[i]? = some ⟨d, .move x, ty, ps, af, none⟩)
    (ha : ∀ K : Act → Prop, K a' → K (a.put d (a.eval x))) (h : FlowS P l.toArray Q S σ a' w) : FlowS P l.toArray Q S ((true, i) :: σ) a w :=
  FlowS.calm (a.eval x) ho rfl (fun w' _ => by simp [execOp]) (ha (fun x => FlowS P l.toArray Q S σ x w) h)
theorem FlowS.asg {i : Nat} {d : Option Tmp} {x : Operand} {ty : TypeId} {ps : String} {af : Array Edge} {σ : List (Bool × Nat)} {a : Act} {w : World} (a' : Act) (ho : l[i]? = some ⟨d, .assign x, ty, ps, af, none⟩)
    (ha : ∀ K : Act → Prop, K a' → K (a.put d (a.eval x))) (h : FlowS P l.toArray Q S σ a' w) : FlowS P l.toArray Q S ((true, i) :: σ) a w :=
  FlowS.calm (a.eval x) ho rfl (fun w' _ => by simp [execOp]) (ha (fun x => FlowS P l.toArray Q S σ x w) h)
theorem FlowS.calmG {i : Nat} {o : Oper} {σ : List (Bool × Nat)} {a : Act} {w : World} (v : Value) (ho : l[i]? = some o) (hg : Region.wanted o (yielded l.toArray a.tmps) = true)
    (hr : ∀ w', S w' → (execOp a.eval o).run P w' = .ok (.value v) w') (h : FlowS P l.toArray Q S σ (a.put o.dst v) w) : FlowS P l.toArray Q S ((true, i) :: σ) a w :=
  ⟨o, v, by simpa using ho, .inl ⟨hg, hr⟩, h⟩
theorem FlowS.pass {i : Nat} {o : Oper} {σ : List (Bool × Nat)} {a : Act} {w : World} (ho : l[i]? = some o) (hg : Region.wanted o (yielded l.toArray a.tmps) = false)
    (h : FlowS P l.toArray Q S σ (a.put o.dst undef) w) : FlowS P l.toArray Q S ((true, i) :: σ) a w :=
  ⟨o, undef, by simpa using ho, .inr ⟨hg, rfl⟩, h⟩
theorem FlowS.move {i : Nat} {o : Oper} {σ : List (Bool × Nat)} {a : Act} {w : World} (ho : l[i]? = some o)
    (h : wpList P l.toArray (Exit.then (fun a' w' => S w' ∧ FlowS P l.toArray Q S σ a' w') Q) [o] a w) : FlowS P l.toArray Q S ((false, i) :: σ) a w := by
  have ho' : l.toArray[i]? = some o := by simpa using ho
  simp only [FlowS, wpOp, ho']
  simp only [wpList] at h
  exact h
theorem FlowS.done {a : Act} {w : World} (h : Q .normal a w) : FlowS P ops (NoPanic Q) S [] a w := h
end
end

end Go.Proofs.YtjelhdpcaileiaaGreatDoor


/-! A region in which two operations that make memory may come up in either order: reads and reckonings first, then both ways. No condition. -/
namespace Go.Proofs.YtjelhdpcaileiaaGreatDoor
open Go.RowKit

section
variable {P : Program} {ops : Array Oper} {Q : Exit → Act → World → Prop} {md : Region.Mode} {cl : Nat → Bool}

def withK (K : Act → World → Prop) (Q : Exit → Act → World → Prop) : Exit → Act → World → Prop
  | .normal, a, w => K a w
  | e, a, w => Q e a w

def listTo : List (Bool × Nat) → Array Bool → Array Bool
  | [], listed => listed
  | (_, i) :: σ, listed => listTo σ (listed.setIfInBounds i true)

def preOk (md : Region.Mode) (ops : Array Oper) (cl : Nat → Bool) : List (Bool × Nat) → Array Bool → Bool
  | [], _ => true
  | (true, i) :: σ, listed => (Region.ready md ops listed).contains i && Region.free md ops listed i &&
      ((List.range ops.size).all fun j => j == i || listed.getD j true || !cl j || precedes md ops i j) && preOk md ops cl σ (listed.setIfInBounds i true)
  | (false, _) :: _, _ => false

theorem fork_sound (hs : Region.noSelect ops = true) (hQ : ∀ c a d v w, Q (.panic c) (Act.put a d v) w → Q (.panic c) a w) {R : Exit → Act → World → Prop} {n : Nat} :
    ∀ (σ : List (Bool × Nat)) (fuel : Nat) (listed : Array Bool) (a : Act) (w : World), listed.size = ops.size → DownClosed md ops listed → σ.length + n ≤ fuel → preOk md ops cl σ listed = true →
      (∀ (fuel : Nat) (a : Act) (w : World), (listTo σ listed).size = ops.size → DownClosed md ops (listTo σ listed) → n ≤ fuel → R .normal a w → wpAnyT P md ops Q cl fuel (listTo σ listed) a w) →
      Flow P ops R cl σ a w → wpAnyT P md ops Q cl fuel listed a w := by
  intro σ
  induction σ with
  | nil =>
    intro fuel listed a w hsz hdc hf hok hK h
    exact hK fuel a w hsz hdc (by simpa using hf) h
  | cons s σ ih =>
    obtain ⟨b, i⟩ := s
    intro fuel listed a w hsz hdc hf hok hK h
    cases fuel with
    | zero => simp at hf
    | succ fuel =>
      have hf' : σ.length + n ≤ fuel := by simp at hf; omega
      cases b with
      | true =>
        simp only [preOk, Bool.and_eq_true] at hok
        obtain ⟨⟨⟨h1, h2⟩, h3⟩, h4⟩ := hok
        obtain ⟨o, v, ho, hy, hfl⟩ := h
        have hir : i ∈ Region.ready md ops listed := by simpa using h1
        refine wpAnyT_first ho (Region.noSelect_spec hs) (fun c a w => hQ c a o.dst v w) fuel listed a w hsz hdc ?_ (Region.free_spec ho h2) hir hy (ih fuel _ _ _ (by simpa using hsz) (hdc.set hir) hf' h4 hK hfl)
        intro j oj hj hji hun hc
        simp only [List.all_eq_true, List.mem_range] at h3
        have h5 := h3 j (Array.getElem?_eq_some_iff.1 hj).1
        simpa only [hc, hun, Bool.or_eq_true, beq_iff_eq, hji, Bool.not_true, Bool.false_eq_true, false_or] using h5
      | false => simp [preOk] at hok

def forkOk (md : Region.Mode) (ops : Array Oper) (cl : Nat → Bool) (σ : List (Bool × Nat)) (i : Nat) (σ1 : List (Bool × Nat)) (j : Nat) (σ2 : List (Bool × Nat)) (listed : Array Bool) : Bool :=
  preOk md ops cl σ listed && Region.ready md ops (listTo σ listed) == [i, j] && flowOk md ops cl σ1 ((listTo σ listed).setIfInBounds i true) && flowOk md ops cl σ2 ((listTo σ listed).setIfInBounds j true)

/-- **TWO THAT COME UP IN EITHER ORDER.** -/
theorem wp_region_fork {id : Nat} {a : Act} {w : World} (σ : List (Bool × Nat)) (i : Nat) (σ1 : List (Bool × Nat)) (j : Nat) (σ2 : List (Bool × Nat)) (cl : Nat → Bool) (hm : P.follows .mixedOrders = true) (hs : Region.noSelect ops = true)
    (hl : decide (σ.length + (σ1.length + σ2.length + 1) ≤ ops.size + σ2.length ∧ σ2.length = σ1.length) = true) (hok : forkOk .any ops cl σ i σ1 j σ2 (Array.replicate ops.size false) = true)
    (h : Flow P ops (NoPanic (withK (fun a w => Flow P ops (NoPanic Q) cl ((false, i) :: σ1) a w ∧ Flow P ops (NoPanic Q) cl ((false, j) :: σ2) a w) Q)) cl σ a w.drew) : (Code.region id ops true).wp P Q a w := by
  have hl' := of_decide_eq_true hl
  unfold forkOk at hok
  simp only [Bool.and_eq_true, beq_iff_eq] at hok
  obtain ⟨⟨⟨h1, h2⟩, h3⟩, h4⟩ := hok
  refine wp_region_noPanic (wp_region_any hm (wpAny_of_T _ _ _ _ (fork_sound (cl := cl) (n := σ1.length + 1) hs noPanic_put σ _ _ _ _ (by simp) downClosed_start (by omega) h1 ?_ h)))
  intro fuel a w hsz hdc hf hK
  obtain ⟨k1, k2⟩ : Flow P ops (NoPanic Q) cl ((false, i) :: σ1) a w ∧ Flow P ops (NoPanic Q) cl ((false, j) :: σ2) a w := hK
  cases fuel with
  | zero => omega
  | succ fuel =>
    refine ⟨fun h0 => (by rw [h0] at h2; cases h2), fun k hk => ?_⟩
    have hk0 := hk
    rw [h2] at hk
    simp only [List.mem_cons, List.not_mem_nil, or_false] at hk
    rcases hk with rfl | rfl
    · exact wpOp_mono (fun a' w' h' => ⟨h'.1, flow_sound hs noPanic_put σ1 fuel _ _ _ (by simpa using hsz) (hdc.set hk0) (by omega) h3 h'.2⟩) k1
    · exact wpOp_mono (fun a' w' h' => ⟨h'.1, flow_sound hs noPanic_put σ2 fuel _ _ _ (by simpa using hsz) (hdc.set hk0) (by omega) h4 h'.2⟩) k2

theorem Flow.fork {K : Act → World → Prop} {a : Act} {w : World} (h : K a w) : Flow P ops (NoPanic (withK K Q)) cl [] a w := h
end

end Go.Proofs.YtjelhdpcaileiaaGreatDoor


/-! Rows of texts in memory. -/
namespace Go.Proofs.YtjelhdpcaileiaaGreatDoor
open Go.RowKit

theorem info_str : (Tryz.prog.info? 9).map (fun i => (i.zero, i.size, i.bytes)) = some (some (.string ByteArray.empty), 1, 16) := by kernel_rfl
def strOf (l : List UInt8) : Value := .string ⟨l.toArray⟩
def strCells' (ts : List (List UInt8)) : List Value := ts.map strOf
theorem str_at {w : World} {A : Option Addr} {ts : List (List UInt8)} {i : Nat} {x : List UInt8} (h : Reads w 1 A ts.length (strCells' ts)) (hi : ts[i]? = some x) : ∃ ad, A = some ad ∧ w.cell? (ad.add i) = some (.string ⟨x.toArray⟩) := by
  have hlt := (List.getElem?_eq_some_iff.1 hi).1
  obtain ⟨ad, u, e, hu, hc⟩ := h.at_ hlt
  unfold strCells' at hu
  rw [List.getElem?_map, hi] at hu
  have hu' : strOf x = u := Option.some.inj hu
  subst hu'
  exact ⟨ad, e, hc⟩

end Go.Proofs.YtjelhdpcaileiaaGreatDoor


/-! The plain law of distances of shapes: pixels that differ are all ink but twice what meets. -/
namespace Go.Proofs.YtjelhdpcaileiaaGreatDoor
open Go.RowKit

/-! ### sums over windows -/
def winN (f : Int → Nat) (lo : Int) (n : Nat) : Nat := sumN (fun i => f (lo + (i : Int))) n
theorem winN_congr {f g : Int → Nat} {lo : Int} {n : Nat} (h : ∀ i : Nat, i < n → f (lo + (i : Int)) = g (lo + (i : Int))) : winN f lo n = winN g lo n := sumN_congr h
theorem winN_succ (f : Int → Nat) (lo : Int) (n : Nat) : winN f lo (n + 1) = winN f lo n + f (lo + (n : Int)) := rfl
theorem winN_split (f : Int → Nat) (lo : Int) (a b : Nat) : winN f lo (a + b) = winN f lo a + winN f (lo + (a : Int)) b := by
  unfold winN
  rw [sumN_split]
  congr 1
  refine sumN_congr fun i _ => ?_
  congr 1
  omega
theorem winN_none {f : Int → Nat} {lo : Int} {n : Nat} (h : ∀ i : Nat, i < n → f (lo + (i : Int)) = 0) : winN f lo n = 0 := (sumN_congr h).trans (sumN_zero n)
theorem winN_sub {f : Int → Nat} {lo p : Int} {n m : Nat} (h1 : lo ≤ p) (h2 : p + (m : Int) ≤ lo + (n : Int)) (h : ∀ z, z < p ∨ p + (m : Int) ≤ z → f z = 0) : winN f lo n = winN f p m := by
  obtain ⟨a, rfl⟩ : ∃ a : Nat, p = lo + (a : Int) := ⟨(p - lo).toNat, by omega⟩
  obtain ⟨b, rfl⟩ : ∃ b : Nat, n = a + (m + b) := ⟨n - a - m, by omega⟩
  rw [winN_split, winN_split, winN_none (n := a) (fun i hi => h _ (by omega)), winN_none (n := b) (fun i hi => h _ (by omega))]
  omega
theorem winN_shift (f : Int → Nat) (d lo : Int) (n : Nat) : winN (fun z => f (z - d)) lo n = winN f (lo - d) n := by
  refine sumN_congr fun i _ => ?_
  show f (lo + (i : Int) - d) = f (lo - d + (i : Int))
  congr 1
  omega
theorem winN_add (f g : Int → Nat) (lo : Int) (n : Nat) : winN (fun z => f z + g z) lo n = winN f lo n + winN g lo n := sumN_add _ _ n
def win2 (F : Int → Int → Nat) (x0 : Int) (nx : Nat) (y0 : Int) (ny : Nat) : Nat := winN (fun y => winN (fun x => F x y) x0 nx) y0 ny
theorem win2_add (F G : Int → Int → Nat) (x0 : Int) (nx : Nat) (y0 : Int) (ny : Nat) : win2 (fun x y => F x y + G x y) x0 nx y0 ny = win2 F x0 nx y0 ny + win2 G x0 nx y0 ny := by
  unfold win2
  rw [← winN_add]
  exact winN_congr fun i _ => winN_add _ _ _ _
theorem win2_sub {F : Int → Int → Nat} {x0 y0 px py : Int} {nx ny mx my : Nat} (h1 : x0 ≤ px) (h2 : px + (mx : Int) ≤ x0 + (nx : Int)) (h3 : y0 ≤ py) (h4 : py + (my : Int) ≤ y0 + (ny : Int))
    (h : ∀ x y, (x < px ∨ px + (mx : Int) ≤ x) ∨ (y < py ∨ py + (my : Int) ≤ y) → F x y = 0) : win2 F x0 nx y0 ny = win2 F px mx py my := by
  unfold win2
  refine (winN_sub h3 h4 (fun y hy => winN_none fun i _ => h (x0 + (i : Int)) y (.inr hy))).trans ?_
  exact winN_congr fun i _ => winN_sub h1 h2 fun x hx => h _ _ (.inl hx)
theorem win2_shift (F : Int → Int → Nat) (dx dy x0 y0 : Int) (nx ny : Nat) : win2 (fun x y => F (x - dx) (y - dy)) x0 nx y0 ny = win2 F (x0 - dx) nx (y0 - dy) ny := by
  unfold win2
  have e : (fun y => winN (fun x => F (x - dx) (y - dy)) x0 nx) = fun y => (fun z => winN (fun x => F x z) (x0 - dx) nx) (y - dy) := by
    funext y
    exact winN_shift (fun x => F x (y - dy)) dx x0 nx
  rw [e, winN_shift (fun z => winN (fun x => F x z) (x0 - dx) nx)]
theorem win2_congr {F G : Int → Int → Nat} {x0 : Int} {nx : Nat} {y0 : Int} {ny : Nat} (h : ∀ x y, F x y = G x y) : win2 F x0 nx y0 ny = win2 G x0 nx y0 ny := by
  unfold win2
  exact winN_congr fun i _ => winN_congr fun j _ => h _ _
theorem winN_le {f : Int → Nat} {c : Nat} (h : ∀ z, f z ≤ c) (lo : Int) (n : Nat) : winN f lo n ≤ n * c := sumN_le (fun _ => h _) n
theorem win2_le {F : Int → Int → Nat} (h : ∀ x y, F x y ≤ 1) (x0 : Int) (nx : Nat) (y0 : Int) (ny : Nat) : win2 F x0 nx y0 ny ≤ ny * nx := by
  unfold win2
  refine winN_le (c := nx) (fun y => ?_) y0 ny
  have := winN_le (c := 1) (fun x => h x y) x0 nx
  omega

/-! ### two shapes -/
/-- What lies outside has no ink. -/
def Held (A : Int → Int → Bool) (W H : Nat) : Prop := ∀ x y, A x y = true → 0 ≤ x ∧ x < (W : Int) ∧ 0 ≤ y ∧ y < (H : Int)
def inkA (A : Int → Int → Bool) (W H : Nat) : Nat := win2 (fun x y => b1 (A x y)) 0 W 0 H
def overN (lo hi : Int) : Nat := (hi - lo).toNat
/-- What meets, the second shape being moved. -/
def bothN (A B : Int → Int → Bool) (W H W' H' : Nat) (dx dy : Int) : Nat :=
  win2 (fun x y => b1 (A x y && B (x - dx) (y - dy))) (max 0 dx) (overN (max 0 dx) (min (W : Int) ((W' : Int) + dx))) (max 0 dy) (overN (max 0 dy) (min (H : Int) ((H' : Int) + dy)))
/-- What differs. -/
def diffN (A B : Int → Int → Bool) (W H W' H' r : Nat) (dx dy : Int) : Nat :=
  win2 (fun x y => b1 (A x y != B (x - dx) (y - dy))) (-(r : Int)) (max W W' + 2 * r) (-(r : Int)) (max H H' + 2 * r)
theorem held0 {A : Int → Int → Bool} {W H : Nat} (h : Held A W H) {x y : Int} (hn : ¬ (0 ≤ x ∧ x < (W : Int) ∧ 0 ≤ y ∧ y < (H : Int))) : A x y = false := by
  cases he : A x y
  · rfl
  · exact absurd (h x y he) hn
theorem diff_both {A B : Int → Int → Bool} {W H W' H' r : Nat} {dx dy : Int} (hA : Held A W H) (hB : Held B W' H') (h1 : -(r : Int) ≤ dx) (h2 : dx ≤ (r : Int)) (h3 : -(r : Int) ≤ dy) (h4 : dy ≤ (r : Int)) :
    diffN A B W H W' H' r dx dy + 2 * bothN A B W H W' H' dx dy = inkA A W H + inkA B W' H' := by
  have e1 : bothN A B W H W' H' dx dy = win2 (fun x y => b1 (A x y && B (x - dx) (y - dy))) (-(r : Int)) (max W W' + 2 * r) (-(r : Int)) (max H H' + 2 * r) := by
    unfold bothN overN
    refine (win2_sub (by omega) (by omega) (by omega) (by omega) fun x y hxy => ?_).symm
    cases ha : A x y
    · rfl
    · cases hb : B (x - dx) (y - dy)
      · rfl
      · have a := hA x y ha
        have b := hB _ _ hb
        omega
  have e2 : inkA A W H = win2 (fun x y => b1 (A x y)) (-(r : Int)) (max W W' + 2 * r) (-(r : Int)) (max H H' + 2 * r) := by
    unfold inkA
    refine (win2_sub (by omega) (by omega) (by omega) (by omega) fun x y hxy => ?_).symm
    rw [held0 hA (by omega)]
    rfl
  have e3 : inkA B W' H' = win2 (fun x y => b1 (B (x - dx) (y - dy))) (-(r : Int)) (max W W' + 2 * r) (-(r : Int)) (max H H' + 2 * r) := by
    rw [win2_shift (fun x y => b1 (B x y))]
    unfold inkA
    refine (win2_sub (by omega) (by omega) (by omega) (by omega) fun x y hxy => ?_).symm
    rw [held0 hB (by omega)]
    rfl
  rw [e1, e2, e3, ← win2_add, Nat.two_mul]
  unfold diffN
  rw [← win2_add, ← win2_add]
  refine win2_congr fun x y => ?_
  cases A x y <;> cases B (x - dx) (y - dy) <;> rfl

/-! ### the best of all shifts -/
def mostN (f : Nat → Nat) : Nat → Nat
  | 0 => 0
  | n + 1 => max (mostN f n) (f n)
theorem mostN_le {f : Nat → Nat} {c n : Nat} (h : ∀ i, i < n → f i ≤ c) : mostN f n ≤ c := by
  induction n with
  | zero => exact Nat.zero_le _
  | succ n ih =>
    have a := ih fun i hi => h i (by omega)
    have b := h n (by omega)
    show max (mostN f n) (f n) ≤ c
    omega
/-- The shift of that number: rows of 2 r + 1. -/
def shiftX (r i : Nat) : Int := ((i % (2 * r + 1) : Nat) : Int) - (r : Int)
def shiftY (r i : Nat) : Int := ((i / (2 * r + 1) : Nat) : Int) - (r : Int)
def shifted (A B : Int → Int → Bool) (W H W' H' r i : Nat) : Nat := bothN A B W H W' H' (shiftX r i) (shiftY r i)
/-- How far two shapes are from each other. -/
def farN (A B : Int → Int → Bool) (W H W' H' r : Nat) : Int := (inkA A W H : Int) + (inkA B W' H' : Int) - 2 * (mostN (shifted A B W H W' H' r) ((2 * r + 1) * (2 * r + 1)) : Int)
/-- The least of what differs, so far. -/
theorem least_step {T n b m : Nat} {l : Int} (hn : n + 2 * b = T) (hl : l = -1 ∧ m = 0 ∨ l = (T : Int) - 2 * (m : Int)) (hm : 2 * m ≤ T) : (if l < 0 ∨ (n : Int) < l then (n : Int) else l) = (T : Int) - 2 * ((max m b : Nat) : Int) := by
  rcases hl with ⟨rfl, rfl⟩ | rfl
  · rw [if_pos (.inl (by decide))]
    omega
  · split
    · rename_i h
      omega
    · rename_i h
      omega

end Go.Proofs.YtjelhdpcaileiaaGreatDoor


/-! glyph.distance. -/
namespace Go.Proofs.YtjelhdpcaileiaaGreatDoor
open Go.RowKit

/-- A page's pixels. -/
def inkF (bs : List Bool) (W H : Nat) (x y : Int) : Bool := atI bs W H x y
theorem inkF_held (bs : List Bool) (W H : Nat) : Held (inkF bs W H) W H := fun x y h => by
  unfold inkF atI at h
  rw [Bool.and_eq_true] at h
  exact of_decide_eq_true h.1
theorem inkF_at (bs : List Bool) (W H x y : Nat) (hx : x < W) (hy : y < H) : inkF bs W H x y = bs.getD (y * W + x) false := atI_in bs W H x y hx hy
/-- The pixels that have ink, one behind the other. -/
def tally (bs : List Bool) (n : Nat) : Nat := sumN (fun i => b1 (bs.getD i false)) n
theorem tally_succ (bs : List Bool) (n : Nat) : tally bs (n + 1) = tally bs n + b1 (bs.getD n false) := rfl
theorem tally_le (bs : List Bool) (n : Nat) : tally bs n ≤ n := by
  have := sumN_le (f := fun i => b1 (bs.getD i false)) (c := 1) (fun _ => b1_le _) n
  simpa [tally] using this
theorem tally_ink (bs : List Bool) (W H : Nat) : tally bs (W * H) = inkA (inkF bs W H) W H := by
  unfold tally inkA win2 winN
  rw [Nat.mul_comm, sumN_flat]
  refine sumN_congr fun y hy => sumN_congr fun x hx => ?_
  rw [show (0 : Int) + (x : Int) = (x : Int) by omega, show (0 : Int) + (y : Int) = (y : Int) by omega]
  show b1 (bs.getD (y * W + x) false) = b1 (inkF bs W H x y)
  rw [inkF_at bs W H x y hx hy]
theorem shifted_le (A B : Int → Int → Bool) (W H W' H' r i : Nat) : shifted A B W H W' H' r i ≤ H * W := by
  unfold shifted bothN
  refine Nat.le_trans (win2_le (fun x y => b1_le _) _ _ _ _) ?_
  refine Nat.mul_le_mul ?_ ?_ <;> (unfold overN; omega)
theorem most_shift_le (A B : Int → Int → Bool) (W H W' H' r n : Nat) : mostN (shifted A B W H W' H' r) n ≤ H * W := mostN_le fun i _ => shifted_le A B W H W' H' r i
theorem shift_at (r i j : Nat) (hj : j < 2 * r + 1) : shiftX r (i * (2 * r + 1) + j) = (j : Int) - (r : Int) ∧ shiftY r (i * (2 * r + 1) + j) = (i : Int) - (r : Int) := by
  unfold shiftX shiftY
  have e1 : (i * (2 * r + 1) + j) % (2 * r + 1) = j := by rw [Nat.mul_comm, Nat.mul_add_mod, Nat.mod_eq_of_lt hj]
  have e2 : (i * (2 * r + 1) + j) / (2 * r + 1) = i := by rw [Nat.mul_comm, Nat.mul_add_div (by omega), Nat.div_eq_of_lt hj, Nat.add_zero]
  rw [e1, e2]
  exact ⟨rfl, rfl⟩

end Go.Proofs.YtjelhdpcaileiaaGreatDoor
