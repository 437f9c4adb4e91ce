/- The plain law of counts and of bounds. -/
import Derived.Test.YtecfjdladcmhjaaDoorMovedLaw
namespace Go.Proofs.YtecfjdladcmhjaaDoor
open Go.RowKit

/-! ### counts -/
theorem b1_le (b : Bool) : b1 b ≤ 1 := by unfold b1; split <;> omega
def rowN (bs : List Bool) (W y : Nat) : Nat := sumN (fun x => b1 (pix bs W x y)) W
def colN (bs : List Bool) (W H x : Nat) : Nat := sumN (fun y => b1 (pix bs W x y)) H
def cntBy (bs : List Bool) (num : Nat → Nat) (m k : Nat) : Nat := sumN (fun i => b1 (bs.getD i false && decide (num i = k))) m
theorem cntBy_succ (bs : List Bool) (num : Nat → Nat) (m k : Nat) : cntBy bs num (m + 1) k = cntBy bs num m k + b1 (bs.getD m false && decide (num m = k)) := rfl
theorem cntBy_le (bs : List Bool) (num : Nat → Nat) (m k : Nat) : cntBy bs num m k ≤ m := by
  have := sumN_le (f := fun i => b1 (bs.getD i false && decide (num i = k))) (c := 1) (fun i => b1_le _) m
  simpa [cntBy] using this
theorem rowN_le (bs : List Bool) (W y : Nat) : rowN bs W y ≤ W := by
  have := sumN_le (f := fun x => b1 (pix bs W x y)) (c := 1) (fun i => b1_le _) W
  simpa [rowN] using this
theorem colN_le (bs : List Bool) (W H x : Nat) : colN bs W H x ≤ H := by
  have := sumN_le (f := fun y => b1 (pix bs W x y)) (c := 1) (fun i => b1_le _) H
  simpa [colN] using this
theorem sumN_pick (f : Nat → Nat) (n k : Nat) : sumN (fun y => if y = k then f y else 0) n = if k < n then f k else 0 := by
  induction n with
  | zero => simp [sumN]
  | succ n ih =>
    simp only [sumN, ih]
    by_cases h : n = k
    · subst h
      rw [if_neg (by omega), if_pos rfl, if_pos (by omega)]; omega
    · rw [if_neg h]
      by_cases h2 : k < n
      · rw [if_pos h2, if_pos (by omega)]; omega
      · rw [if_neg h2, if_neg (by omega)]
theorem cntBy_rows (bs : List Bool) (W H k : Nat) (hk : k < H) : cntBy bs (fun i => i / W) (W * H) k = rowN bs W k := by
  unfold cntBy
  rw [Nat.mul_comm, sumN_flat]
  have e : ∀ y, y < H → sumN (fun x => b1 (bs.getD (y * W + x) false && decide ((y * W + x) / W = k))) W = if y = k then rowN bs W y else 0 := by
    intro y _
    by_cases h : y = k
    · rw [if_pos h]
      refine sumN_congr fun x hx => ?_
      rw [(at_parts y hx).2, decide_eq_true h, Bool.and_true]
      rfl
    · rw [if_neg h]
      rw [← sumN_zero W]
      refine sumN_congr fun x hx => ?_
      rw [(at_parts y hx).2, decide_eq_false h, Bool.and_false]
      rfl
  rw [sumN_congr e, sumN_pick, if_pos hk]
theorem cntBy_cols (bs : List Bool) (W H k : Nat) (hk : k < W) : cntBy bs (fun i => i % W) (W * H) k = colN bs W H k := by
  unfold cntBy
  rw [Nat.mul_comm, sumN_flat]
  refine sumN_congr fun y _ => ?_
  have e : ∀ x, x < W → b1 (bs.getD (y * W + x) false && decide ((y * W + x) % W = k)) = if x = k then b1 (pix bs W x y) else 0 := by
    intro x hx
    rw [(at_parts y hx).1]
    by_cases h : x = k
    · rw [if_pos h, decide_eq_true h, Bool.and_true]; rfl
    · rw [if_neg h, decide_eq_false h, Bool.and_false]; rfl
  rw [sumN_congr e, sumN_pick (fun x => b1 (pix bs W x y)), if_pos hk]
/-- Ink in a box. -/
def inkN (bs : List Bool) (W X Y BW BH : Nat) : Nat := sumN (fun j => sumN (fun i => b1 (pix bs W (X + i) (Y + j))) BW) BH
theorem ink_row (bs : List Bool) (W y : Nat) : inkN bs W 0 y W 1 = rowN bs W y := by
  unfold inkN rowN
  simp [sumN]
theorem ink_col (bs : List Bool) (W H x : Nat) : inkN bs W x 0 1 H = colN bs W H x := by
  unfold inkN colN
  simp [sumN]
theorem ink_grid (BW BH : Nat) (f : Nat → Nat → Bool) : sumN (fun i => b1 ((grid BW BH f).getD i false)) (BW * BH) = sumN (fun j => sumN (fun i => b1 (f i j)) BW) BH := by
  have hg : ∀ i, i < BW * BH → b1 ((grid BW BH f).getD i false) = b1 (f (i % BW) (i / BW)) := fun i hi => by rw [List.getD, grid_at _ _ _ _ hi]; rfl
  rw [sumN_congr hg, Nat.mul_comm, sumN_flat]
  refine sumN_congr fun y _ => sumN_congr fun x hx => ?_
  rw [(at_parts y hx).1, (at_parts y hx).2]
theorem sumN_pos (f : Nat → Nat) : ∀ n, 0 < sumN f n ↔ ∃ i, i < n ∧ 0 < f i
  | 0 => by simp [sumN]
  | n + 1 => by
    have ih := sumN_pos f n
    simp only [sumN]
    constructor
    · intro h
      by_cases h2 : 0 < f n
      · exact ⟨n, by omega, h2⟩
      · obtain ⟨i, hi, h3⟩ := ih.1 (by omega)
        exact ⟨i, by omega, h3⟩
    · rintro ⟨i, hi, h3⟩
      by_cases h2 : i = n
      · subst h2; omega
      · have := ih.2 ⟨i, by omega, h3⟩; omega
theorem b1_pos (b : Bool) : 0 < b1 b ↔ b = true := by cases b <;> simp [b1]
theorem rowN_pos (bs : List Bool) (W y : Nat) : 0 < rowN bs W y ↔ ∃ x, x < W ∧ pix bs W x y = true := by
  unfold rowN; rw [sumN_pos]; simp only [b1_pos]
theorem colN_pos (bs : List Bool) (W H x : Nat) : 0 < colN bs W H x ↔ ∃ y, y < H ∧ pix bs W x y = true := by
  unfold colN; rw [sumN_pos]; simp only [b1_pos]

/-! ### ends -/
def Ends (f : Nat → Nat) (N x r : Nat) : Prop := (x < N ∧ 0 < f x ∧ ∀ j, j < x → f j = 0) ∧ (r < N ∧ 0 < f r ∧ ∀ j, r < j → j < N → f j = 0)
def NoEnds (f : Nat → Nat) (N : Nat) : Prop := ∀ j, j < N → f j = 0
theorem Ends.same {f : Nat → Nat} {N x r x' r' : Nat} (h : Ends f N x r) (k : Ends f N x' r') : x = x' ∧ r = r' := by
  obtain ⟨⟨h1, h2, h3⟩, h4, h5, h6⟩ := h
  obtain ⟨⟨k1, k2, k3⟩, k4, k5, k6⟩ := k
  constructor
  · rcases Nat.lt_trichotomy x x' with c | c | c
    · have := k3 x c; omega
    · exact c
    · have := h3 x' c; omega
  · rcases Nat.lt_trichotomy r r' with c | c | c
    · have := h6 r' c k4; omega
    · exact c
    · have := k6 r c h4; omega
theorem Ends.not {f : Nat → Nat} {N x r : Nat} (h : Ends f N x r) (k : NoEnds f N) : False := by
  have := k x h.1.1
  have := h.1.2.1
  omega

/-! ### bounds -/
def BoundsIs (bs : List Bool) (W H : Nat) (is : Bool) (X Y BW BH : Int) : Prop :=
  (is = false ∧ NoEnds (colN bs W H) W ∧ X = 0 ∧ Y = 0 ∧ BW = 0 ∧ BH = 0) ∨
  (is = true ∧ ∃ l r t b : Nat, Ends (colN bs W H) W l r ∧ Ends (rowN bs W) H t b ∧ X = l ∧ Y = t ∧ BW = (r : Int) - l + 1 ∧ BH = (b : Int) - t + 1)
theorem BoundsIs.same {bs : List Bool} {W H : Nat} {is is' : Bool} {X Y BW BH X' Y' BW' BH' : Int} (h : BoundsIs bs W H is X Y BW BH) (k : BoundsIs bs W H is' X' Y' BW' BH') : is = is' ∧ X = X' ∧ Y = Y' ∧ BW = BW' ∧ BH = BH' := by
  rcases h with ⟨h1, h2, h3, h4, h5, h6⟩ | ⟨h1, l, r, t, b, h2, h3, h4, h5, h6, h7⟩ <;> rcases k with ⟨k1, k2, k3, k4, k5, k6⟩ | ⟨k1, l', r', t', b', k2, k3, k4, k5, k6, k7⟩
  · exact ⟨by rw [h1, k1], by omega, by omega, by omega, by omega⟩
  · exact (k2.not h2).elim
  · exact (h2.not k2).elim
  · obtain ⟨e1, e2⟩ := h2.same k2
    obtain ⟨e3, e4⟩ := h3.same k3
    exact ⟨by rw [h1, k1], by omega, by omega, by omega, by omega⟩
theorem noEnds_rows {bs : List Bool} {W H : Nat} (h : NoEnds (rowN bs W) H) : NoEnds (colN bs W H) W := by
  intro x hx
  rcases Nat.eq_zero_or_pos (colN bs W H x) with e | e
  · exact e
  · obtain ⟨y, hy, hp⟩ := (colN_pos bs W H x).1 e
    have := h y hy
    have := (rowN_pos bs W y).2 ⟨x, hx, hp⟩
    omega
theorem BoundsIs.bd {bs : List Bool} {W H : Nat} {is : Bool} {X Y BW BH : Int} (h : BoundsIs bs W H is X Y BW BH) : (0 ≤ X ∧ X ≤ W) ∧ (0 ≤ Y ∧ Y ≤ H) ∧ (0 ≤ BW ∧ BW ≤ W) ∧ (0 ≤ BH ∧ BH ≤ H) ∧ (is = true → X + BW ≤ W ∧ Y + BH ≤ H ∧ 1 ≤ BW ∧ 1 ≤ BH) := by
  rcases h with ⟨h1, h2, h3, h4, h5, h6⟩ | ⟨h1, l, r, t, b, h2, h3, h4, h5, h6, h7⟩
  · refine ⟨by omega, by omega, by omega, by omega, fun h => ?_⟩
    rw [h1] at h; cases h
  · have a1 := h2.1.1
    have a2 := h2.2.1
    have a3 := h3.1.1
    have a4 := h3.2.1
    have a5 : l ≤ r := by
      rcases Nat.lt_or_ge r l with c | c
      · have := h2.1.2.2 r c; have := h2.2.2.1; omega
      · exact c
    have a6 : t ≤ b := by
      rcases Nat.lt_or_ge b t with c | c
      · have := h3.1.2.2 b c; have := h3.2.2.1; omega
      · exact c
    exact ⟨by omega, by omega, by omega, by omega, fun _ => by omega⟩

/-- The bounds so far. -/
def BInv (bs : List Bool) (W H m : Nat) (l t r b : Int) : Prop :=
  ((∀ i, i < m → bs.getD i false = false) ∧ l = W ∧ t = H ∧ r = -1 ∧ b = -1) ∨
  ((∃ i, i < m ∧ bs.getD i false = true ∧ l = ((i % W : Nat) : Int)) ∧ (∃ i, i < m ∧ bs.getD i false = true ∧ t = ((i / W : Nat) : Int)) ∧ (∃ i, i < m ∧ bs.getD i false = true ∧ r = ((i % W : Nat) : Int)) ∧ (∃ i, i < m ∧ bs.getD i false = true ∧ b = ((i / W : Nat) : Int)) ∧
    ∀ i, i < m → bs.getD i false = true → l ≤ ((i % W : Nat) : Int) ∧ ((i % W : Nat) : Int) ≤ r ∧ t ≤ ((i / W : Nat) : Int) ∧ ((i / W : Nat) : Int) ≤ b)
theorem BInv.start (bs : List Bool) (W H : Nat) : BInv bs W H 0 W H (-1) (-1) := Or.inl ⟨fun i hi => by omega, rfl, rfl, rfl, rfl⟩
theorem BInv.no {bs : List Bool} {W H m : Nat} {l t r b : Int} (h : BInv bs W H m l t r b) (hm : bs.getD m false = false) : BInv bs W H (m + 1) l t r b := by
  rcases h with ⟨h1, h2⟩ | ⟨⟨i1, a1, b1', c1⟩, ⟨i2, a2, b2, c2⟩, ⟨i3, a3, b3, c3⟩, ⟨i4, a4, b4, c4⟩, h5⟩
  · refine Or.inl ⟨fun i hi => ?_, h2⟩
    rcases Nat.lt_or_ge i m with c | c
    · exact h1 i c
    · obtain rfl : i = m := by omega
      exact hm
  · refine Or.inr ⟨⟨i1, by omega, b1', c1⟩, ⟨i2, by omega, b2, c2⟩, ⟨i3, by omega, b3, c3⟩, ⟨i4, by omega, b4, c4⟩, fun i hi hb => ?_⟩
    rcases Nat.lt_or_ge i m with c | c
    · exact h5 i c hb
    · obtain rfl : i = m := by omega
      rw [hm] at hb; cases hb
theorem BInv.yes {bs : List Bool} {W H m : Nat} {l t r b : Int} (h : BInv bs W H m l t r b) (hm : bs.getD m false = true) (hx : m % W < W) (hy : m / W < H) {l' t' r' b' : Int}
    (el : l' = if ((m % W : Nat) : Int) < l then ((m % W : Nat) : Int) else l) (et : t' = if ((m / W : Nat) : Int) < t then ((m / W : Nat) : Int) else t)
    (er : r' = if r < ((m % W : Nat) : Int) then ((m % W : Nat) : Int) else r) (eb : b' = if b < ((m / W : Nat) : Int) then ((m / W : Nat) : Int) else b) : BInv bs W H (m + 1) l' t' r' b' := by
  obtain ⟨x, hx'⟩ : ∃ x, x = m % W := ⟨_, rfl⟩
  obtain ⟨y, hy'⟩ : ∃ y, y = m / W := ⟨_, rfl⟩
  rw [← hx'] at el er hx
  rw [← hy'] at et eb hy
  rcases h with ⟨h1, rfl, rfl, rfl, rfl⟩ | ⟨⟨i1, a1, b1', c1⟩, ⟨i2, a2, b2, c2⟩, ⟨i3, a3, b3, c3⟩, ⟨i4, a4, b4, c4⟩, h5⟩
  · rw [if_pos (by omega)] at el et er eb
    refine Or.inr ⟨⟨m, by omega, hm, by rw [← hx']; exact el⟩, ⟨m, by omega, hm, by rw [← hy']; exact et⟩, ⟨m, by omega, hm, by rw [← hx']; exact er⟩, ⟨m, by omega, hm, by rw [← hy']; exact eb⟩, fun i hi hb => ?_⟩
    rcases Nat.lt_or_ge i m with c | c
    · rw [h1 i c] at hb; cases hb
    · obtain rfl : i = m := by omega
      rw [← hx', ← hy']; omega
  · refine Or.inr ⟨?_, ?_, ?_, ?_, fun i hi hb => ?_⟩
    · by_cases c : (x : Int) < l
      · rw [if_pos c] at el; exact ⟨m, by omega, hm, by rw [← hx']; exact el⟩
      · rw [if_neg c] at el; exact ⟨i1, by omega, b1', by rw [el]; exact c1⟩
    · by_cases c : (y : Int) < t
      · rw [if_pos c] at et; exact ⟨m, by omega, hm, by rw [← hy']; exact et⟩
      · rw [if_neg c] at et; exact ⟨i2, by omega, b2, by rw [et]; exact c2⟩
    · by_cases c : r < (x : Int)
      · rw [if_pos c] at er; exact ⟨m, by omega, hm, by rw [← hx']; exact er⟩
      · rw [if_neg c] at er; exact ⟨i3, by omega, b3, by rw [er]; exact c3⟩
    · by_cases c : b < (y : Int)
      · rw [if_pos c] at eb; exact ⟨m, by omega, hm, by rw [← hy']; exact eb⟩
      · rw [if_neg c] at eb; exact ⟨i4, by omega, b4, by rw [eb]; exact c4⟩
    · have key : (l' ≤ l ∧ l' ≤ x) ∧ (t' ≤ t ∧ t' ≤ y) ∧ (r ≤ r' ∧ (x : Int) ≤ r') ∧ (b ≤ b' ∧ (y : Int) ≤ b') := by
        refine ⟨?_, ?_, ?_, ?_⟩
        · split at el <;> omega
        · split at et <;> omega
        · split at er <;> omega
        · split at eb <;> omega
      rcases Nat.lt_or_ge i m with c | c
      · have := h5 i c hb; omega
      · obtain rfl : i = m := by omega
        rw [← hx', ← hy']; omega
theorem BInv.bd {bs : List Bool} {W H m : Nat} {l t r b : Int} (h : BInv bs W H m l t r b) (hm : m ≤ W * H) : (0 ≤ l ∧ l ≤ W) ∧ (0 ≤ t ∧ t ≤ H) ∧ (-1 ≤ r ∧ r < W) ∧ (-1 ≤ b ∧ b < H) := by
  have hp : ∀ i, i < m → i % W < W ∧ i / W < H := fun i hi => by
    obtain ⟨a, b, _⟩ := place_parts (show i < W * H by omega)
    exact ⟨a, b⟩
  rcases h with ⟨h1, rfl, rfl, rfl, rfl⟩ | ⟨⟨i1, a1, b1', c1⟩, ⟨i2, a2, b2, c2⟩, ⟨i3, a3, b3, c3⟩, ⟨i4, a4, b4, c4⟩, h5⟩
  · omega
  · have p1 := (hp i1 a1).1; have p2 := (hp i2 a2).2; have p3 := (hp i3 a3).1; have p4 := (hp i4 a4).2
    clear h5 hp
    generalize i1 % W = x1 at c1 p1
    generalize i2 / W = y2 at c2 p2
    generalize i3 % W = x3 at c3 p3
    generalize i4 / W = y4 at c4 p4
    omega
theorem pix_place {bs : List Bool} {W H i : Nat} (hi : i < W * H) : pix bs W (i % W) (i / W) = bs.getD i false := by
  unfold pix; rw [(place_parts hi).2.2]
/-- What comes out. -/
theorem BInv.done {bs : List Bool} {W H : Nat} {l t r b : Int} (h : BInv bs W H (W * H) l t r b) :
    (r < 0 ∧ BoundsIs bs W H false 0 0 0 0) ∨ (¬ r < 0 ∧ BoundsIs bs W H true l t (r - l + 1) (b - t + 1)) := by
  rcases h with ⟨h1, rfl, rfl, rfl, rfl⟩ | ⟨⟨i1, a1, b1', c1⟩, ⟨i2, a2, b2, c2⟩, ⟨i3, a3, b3, c3⟩, ⟨i4, a4, b4, c4⟩, h5⟩
  · refine Or.inl ⟨by omega, Or.inl ⟨rfl, fun x hx => ?_, rfl, rfl, rfl, rfl⟩⟩
    rcases Nat.eq_zero_or_pos (colN bs W H x) with e | e
    · exact e
    · obtain ⟨y, hy, hp⟩ := (colN_pos bs W H x).1 e
      have := h1 (y * W + x) (place_lt hx hy)
      unfold pix at hp
      rw [this] at hp; cases hp
  · have q1 := place_parts a1; have q2 := place_parts a2; have q3 := place_parts a3; have q4 := place_parts a4
    have all : ∀ x y, x < W → y < H → pix bs W x y = true → l ≤ x ∧ (x : Int) ≤ r ∧ t ≤ y ∧ (y : Int) ≤ b := fun x y hx hy hp => by
      have := h5 (y * W + x) (place_lt hx hy) hp
      rwa [(at_parts y hx).1, (at_parts y hx).2] at this
    refine Or.inr ⟨by omega, Or.inr ⟨rfl, i1 % W, i3 % W, i2 / W, i4 / W, ⟨⟨q1.1, (colN_pos _ _ _ _).2 ⟨i1 / W, q1.2.1, by rw [pix_place a1]; exact b1'⟩, fun j hj => ?_⟩, q3.1, (colN_pos _ _ _ _).2 ⟨i3 / W, q3.2.1, by rw [pix_place a3]; exact b3⟩, fun j hj hj2 => ?_⟩,
      ⟨⟨q2.2.1, (rowN_pos _ _ _).2 ⟨i2 % W, q2.1, by rw [pix_place a2]; exact b2⟩, fun j hj => ?_⟩, q4.2.1, (rowN_pos _ _ _).2 ⟨i4 % W, q4.1, by rw [pix_place a4]; exact b4⟩, fun j hj hj2 => ?_⟩, c1, c2, by rw [c1, c3], by rw [c2, c4]⟩⟩
    · rcases Nat.eq_zero_or_pos (colN bs W H j) with e | e
      · exact e
      · obtain ⟨y, hy, hp⟩ := (colN_pos bs W H j).1 e
        have := all j y (by omega) hy hp; omega
    · rcases Nat.eq_zero_or_pos (colN bs W H j) with e | e
      · exact e
      · obtain ⟨y, hy, hp⟩ := (colN_pos bs W H j).1 e
        have := all j y (by omega) hy hp; omega
    · rcases Nat.eq_zero_or_pos (rowN bs W j) with e | e
      · exact e
      · obtain ⟨x, hx, hp⟩ := (rowN_pos bs W j).1 e
        have := all x j hx (by omega) hp; omega
    · rcases Nat.eq_zero_or_pos (rowN bs W j) with e | e
      · exact e
      · obtain ⟨x, hx, hp⟩ := (rowN_pos bs W j).1 e
        have := all x j hx (by omega) hp; omega

/-! ### values -/
def cntV (zs : List Int) (m k : Nat) : Nat := sumN (fun i => b1 (decide (valOf zs i = (k : Int)))) m
theorem cntV_succ (zs : List Int) (m k : Nat) : cntV zs (m + 1) k = cntV zs m k + b1 (decide (valOf zs m = (k : Int))) := rfl
theorem cntV_le (zs : List Int) (m k : Nat) : cntV zs m k ≤ m := by
  have := sumN_le (f := fun i => b1 (decide (valOf zs i = (k : Int)))) (c := 1) (fun i => b1_le _) m
  simpa [cntV] using this

end Go.Proofs.YtecfjdladcmhjaaDoor
