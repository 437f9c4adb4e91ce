/- The plain law of fonts as texts: what is printed, what is read, and that each is the other's. -/
import Derived.Test.YtjelhdpcaileiaaGreatDoorS4
import Derived.Test.YtjelhdpcaileiaaGreatDoorS6
import Derived.Test.YtjelhdpcaileiaaGreatDoorS7
import Derived.Test.YtjelhdpcaileiaaGreatDoorS8
import Derived.Test.YtjelhdpcaileiaaGreatDoorS9
import Derived.Test.YtjelhdpcaileiaaGreatDoorS14

namespace Go.Proofs.YtjelhdpcaileiaaGreatDoor
open Go.RowKit

/-! ### numbers of at most nine digits -/
def int9 (s : List UInt8) : Option Nat := match Lib.atoi s with
  | some v => if s.length ≤ 9 ∧ 0 ≤ v ∧ Lib.itoa v = s then some v.toNat else none
  | none => none
theorem nDig_le : ∀ (k n : Nat), n < 10 ^ (k + 1) → Lib.nDigits n ≤ k + 1
  | 0, n, h => by rw [Lib.nDigits_small (by simpa using h)]; omega
  | k + 1, n, h => by
    by_cases h1 : n < 10
    · rw [Lib.nDigits_small h1]; omega
    · rw [Lib.nDigits_big h1]
      have := nDig_le k (n / 10) (by rw [Nat.pow_succ] at h; omega)
      omega
theorem dec_nine {n : Nat} : (Lib.decDigits n).length ≤ 9 ↔ n ≤ 999999999 := by
  rw [Lib.decDigits_length]
  constructor
  · intro h
    have h1 := Lib.lt_pow_nDigits n
    have h2 : 10 ^ Lib.nDigits n ≤ 10 ^ 9 := Nat.pow_le_pow_right (by decide) h
    omega
  · intro h
    exact nDig_le 8 n (by omega)
theorem atoi_dec (n : Nat) : Lib.atoi (Lib.decDigits n) = some (n : Int) := by
  rcases Nat.eq_zero_or_pos n with rfl | h
  · rw [dec_small (by decide)]; decide
  · exact atoi_digits h
theorem itoa_nat (n : Nat) : Lib.itoa (n : Int) = Lib.decDigits n := by
  unfold Lib.itoa
  rw [if_neg (by omega), Int.toNat_natCast]
theorem int9_iff {s : List UInt8} {n : Nat} : int9 s = some n ↔ n ≤ 999999999 ∧ s = Lib.decDigits n := by
  constructor
  · intro h
    unfold int9 at h
    cases ha : Lib.atoi s with
    | none => rw [ha] at h; cases h
    | some v =>
      rw [ha] at h
      simp only at h
      split at h
      · rename_i hc
        obtain ⟨h9, h0, hi⟩ := hc
        obtain rfl := Option.some.inj h
        have e : s = Lib.decDigits v.toNat := by
          rw [← hi]
          unfold Lib.itoa
          rw [if_neg (by omega)]
        exact ⟨dec_nine.1 (by rw [← e]; exact h9), e⟩
      · cases h
  · rintro ⟨h, rfl⟩
    unfold int9
    rw [atoi_dec]
    simp only
    rw [if_pos ⟨dec_nine.2 h, by omega, itoa_nat n⟩, Int.toNat_natCast]

/-! ### the first line -/
def fontK : List UInt8 := [102, 111, 110, 116]
def letK : List UInt8 := [108, 101, 116, 116, 101, 114, 32]
def headF (l : List UInt8) : Option (List UInt8 × Nat × Nat × Nat) := match wordsOf l with
  | [w0, w1, w2, w3, w4] => if w0 = fontK ∧ w1 ≠ [] then (match int9 w2, int9 w3, int9 w4 with
    | some a, some b, some c => some (w1, a, b, c)
    | _, _, _ => none) else none
  | _ => none
theorem headF_iff {l nm : List UInt8} {a b c : Nat} : headF l = some (nm, a, b, c) ↔ wordsOf l = [fontK, nm, Lib.decDigits a, Lib.decDigits b, Lib.decDigits c] ∧ nm ≠ [] ∧ a ≤ 999999999 ∧ b ≤ 999999999 ∧ c ≤ 999999999 := by
  unfold headF
  constructor
  · intro h
    split at h
    · rename_i w0 w1 w2 w3 w4 hw
      split at h
      · rename_i hc
        obtain ⟨rfl, h1⟩ := hc
        split at h
        · rename_i x y z hx hy hz
          obtain ⟨rfl, h2⟩ := Prod.mk.inj (Option.some.inj h)
          obtain ⟨rfl, h3⟩ := Prod.mk.inj h2
          obtain ⟨rfl, rfl⟩ := Prod.mk.inj h3
          obtain ⟨b1, rfl⟩ := int9_iff.1 hx
          obtain ⟨b2, rfl⟩ := int9_iff.1 hy
          obtain ⟨b3, rfl⟩ := int9_iff.1 hz
          exact ⟨hw, h1, b1, b2, b3⟩
        · cases h
      · cases h
    · cases h
  · rintro ⟨hw, h1, b1, b2, b3⟩
    rw [hw]
    simp only [h1, ne_eq, not_false_eq_true, and_self, if_true, int9_iff.2 ⟨b1, rfl⟩, int9_iff.2 ⟨b2, rfl⟩, int9_iff.2 ⟨b3, rfl⟩]
def fontLine (nm : List UInt8) (a b c : Nat) : List UInt8 := joinW [fontK, nm, Lib.decDigits a, Lib.decDigits b, Lib.decDigits c]
theorem dec_sp (n : Nat) : ∀ b ∈ Lib.decDigits n, b ≠ 32 := fun b h e => by
  have := dec_all n b h
  rw [e] at this
  exact absurd this.1 (by decide)
theorem dec_nl (n : Nat) : (10 : UInt8) ∉ Lib.decDigits n := dec_no (by decide)
theorem fontLine_words {nm : List UInt8} {a b c : Nat} (h : ∀ x ∈ nm, x ≠ 32) : wordsOf (fontLine nm a b c) = [fontK, nm, Lib.decDigits a, Lib.decDigits b, Lib.decDigits c] := by
  refine wordsOf_join _ (by simp) fun x hx => ?_
  simp only [List.mem_cons, List.not_mem_nil, or_false] at hx
  rcases hx with rfl | rfl | rfl | rfl | rfl
  · decide
  · exact h
  · exact dec_sp _
  · exact dec_sp _
  · exact dec_sp _
theorem fontLine_nl {nm : List UInt8} {a b c : Nat} (h : (10 : UInt8) ∉ nm) : (10 : UInt8) ∉ fontLine nm a b c := by
  unfold fontLine joinW joinW joinW joinW joinW
  simp only [List.mem_append, List.mem_cons, not_or]
  exact ⟨by decide, by decide, h, by decide, dec_nl a, by decide, dec_nl b, by decide, dec_nl c⟩
theorem name_byte {nm : List UInt8} (h : nameB nm = true) : ∀ b ∈ nm, b ≠ 32 ∧ b ≠ 10 := by
  unfold nameB at h
  have h4 := (of_decide_eq_true h).2.2.2
  intro b hb
  have := (nameCs_has b).1 (h4 b hb)
  constructor
  · intro e
    rw [e] at this
    exact absurd this (by decide)
  · intro e
    rw [e] at this
    exact absurd this (by decide)
theorem name_some {nm : List UInt8} (h : nameB nm = true) : nm ≠ [] := (of_decide_eq_true h).1

/-! ### the rows of a letter -/
/-- k rows from the y-th on: the row that is wrong, or what is left, the width and the pixels. -/
def rowsF : Nat → Nat → List UInt8 → Nat → List Bool → Nat ⊕ (List UInt8 × Nat × List Bool)
  | 0, _, t, W, P => .inr (t, W, P)
  | k + 1, y, t, W, P => if badLine t W y = true then .inl y else rowsF k (y + 1) (Lib.cut t [10]).2.1 (Lib.cut t [10]).1.length (P ++ (Lib.cut t [10]).1.map (· == 35))
theorem cut_spec {t : List UInt8} (h : (Lib.cut t [10]).2.2 = true) : t = (Lib.cut t [10]).1 ++ 10 :: (Lib.cut t [10]).2.1 ∧ (10 : UInt8) ∉ (Lib.cut t [10]).1 := cut_true h
theorem count_cut {t : List UInt8} (h : (Lib.cut t [10]).2.2 = true) : t.count 10 = 1 + (Lib.cut t [10]).2.1.count 10 := by
  obtain ⟨e, hn⟩ := cut_spec h
  conv => lhs; rw [e]
  rw [List.count_append, List.count_cons_self, List.count_eq_zero_of_not_mem hn]
  omega
theorem rowsF_count : ∀ (k y : Nat) (t : List UInt8) (W : Nat) (P : List Bool), (∀ a, rowsF k y t W P = .inl a → y ≤ a ∧ a ≤ y + t.count 10) ∧ (∀ r, rowsF k y t W P = .inr r → k + r.1.count 10 = t.count 10)
  | 0, y, t, W, P => ⟨(fun a h => by cases h), (fun r h => by cases h; exact Nat.zero_add _)⟩
  | k + 1, y, t, W, P => by
    unfold rowsF
    by_cases hb : badLine t W y = true
    · rw [if_pos hb]
      exact ⟨(fun a h => by cases h; exact ⟨Nat.le_refl _, Nat.le_add_right _ _⟩), (fun r h => by cases h)⟩
    · rw [if_neg hb]
      have hc := count_cut (bad_of_not hb).1
      obtain ⟨h1, h2⟩ := rowsF_count k (y + 1) (Lib.cut t [10]).2.1 (Lib.cut t [10]).1.length (P ++ (Lib.cut t [10]).1.map (· == 35))
      exact ⟨(fun a h => by have := h1 a h; omega), (fun r h => by have := h2 r h; omega)⟩
theorem dot_row {l : List UInt8} (h : dotL l = true) : l.map (fun b => inkC (b == 35)) = l := by
  unfold dotL at h
  have h := of_decide_eq_true h
  conv => rhs; rw [← List.map_id l]
  refine List.map_congr_left fun b hb => ?_
  have := h b hb
  simp only [List.contains_cons, List.contains_nil, Bool.or_false, Bool.or_eq_true, beq_iff_eq] at this
  rcases this with rfl | rfl <;> rfl
/-- The text of k rows of width W. -/
def rowsL (W : Nat) : Nat → List Bool → List UInt8
  | 0, _ => []
  | k + 1, P => (P.take W).map inkC ++ 10 :: rowsL W k (P.drop W)
theorem rowsF_text : ∀ (k y : Nat) (t : List UInt8) (W : Nat) (P : List Bool) (t' : List UInt8) (W' : Nat) (P' : List Bool), rowsF k y t W P = .inr (t', W', P') →
    (0 < y ∨ k = 0 → W' = W) ∧ (0 < k → 1 ≤ W') ∧ ∃ Q : List Bool, P' = P ++ Q ∧ Q.length = k * W' ∧ t = rowsL W' k Q ++ t'
  | 0, y, t, W, P, t', W', P', h => by
    unfold rowsF at h
    have h := Sum.inr.inj h
    obtain ⟨rfl, h2⟩ := Prod.mk.inj h
    obtain ⟨rfl, rfl⟩ := Prod.mk.inj h2
    exact ⟨fun _ => rfl, fun h => absurd h (by omega), [], by simp, by simp, rfl⟩
  | k + 1, y, t, W, P, t', W', P', h => by
    unfold rowsF at h
    by_cases hb : badLine t W y = true
    · rw [if_pos hb] at h; cases h
    · rw [if_neg hb] at h
      obtain ⟨g1, g2, g3, g4⟩ := bad_of_not hb
      obtain ⟨i1, i2, Q, rfl, i3, i4⟩ := rowsF_text k (y + 1) _ _ _ t' W' P' h
      obtain ⟨e, -⟩ := cut_spec g1
      have hW := i1 (.inl (Nat.succ_pos _))
      have hne : 1 ≤ (Lib.cut t [10]).1.length := by
        rcases Nat.eq_zero_or_pos (Lib.cut t [10]).1.length with h0 | h0
        · rw [List.eq_nil_of_length_eq_zero h0] at g2; cases g2
        · exact h0
      refine ⟨fun h0 => ?_, fun _ => by omega, (Lib.cut t [10]).1.map (· == 35) ++ Q, by rw [List.append_assoc], ?_, ?_⟩
      · rcases h0 with h0 | h0
        · rw [hW]; exact g4 h0
        · cases h0
      · rw [List.length_append, List.length_map, i3, ← hW, Nat.succ_mul, Nat.add_comm]
      · show t = (List.take W' _).map inkC ++ 10 :: rowsL W' k (List.drop W' _) ++ t'
        rw [List.take_left' (by rw [List.length_map, hW]), List.drop_left' (by rw [List.length_map, hW]), List.map_map]
        have e5 : List.map (inkC ∘ fun x => x == 35) (Lib.cut t [10]).1 = (Lib.cut t [10]).1 := dot_row g3
        rw [e5, List.append_assoc, List.cons_append, ← i4]
        exact e
theorem ink_nl (P : List Bool) : (10 : UInt8) ∉ P.map inkC := fun h => by
  obtain ⟨b, -, e⟩ := List.mem_map.1 h
  exact inkC_ne b e
theorem ink_dot (P : List Bool) : dotL (P.map inkC) = true := decide_eq_true fun b hb => by
  obtain ⟨c, -, rfl⟩ := List.mem_map.1 hb
  exact inkC_has c
theorem rowsF_read : ∀ (k y : Nat) (W : Nat) (Q P : List Bool) (t : List UInt8) (W0 : Nat), 1 ≤ W → Q.length = k * W → (0 < y → W0 = W) → rowsF k y (rowsL W k Q ++ t) W0 P = .inr (t, if k = 0 then W0 else W, P ++ Q)
  | 0, y, W, Q, P, t, W0, _, hq, _ => by
    rw [Nat.zero_mul] at hq
    rw [List.eq_nil_of_length_eq_zero hq, List.append_nil]
    rfl
  | k + 1, y, W, Q, P, t, W0, hW, hq, hy => by
    rw [Nat.succ_mul] at hq
    have hl : (Q.take W).length = W := by rw [List.length_take]; omega
    have hcut : Lib.cut (rowsL W (k + 1) Q ++ t) [10] = ((Q.take W).map inkC, rowsL W k (Q.drop W) ++ t, true) := by
      show Lib.cut ((Q.take W).map inkC ++ 10 :: rowsL W k (Q.drop W) ++ t) [10] = _
      rw [List.append_assoc, List.cons_append]
      exact cut_at (ink_nl _)
    unfold rowsF
    have hb : ¬ badLine (rowsL W (k + 1) Q ++ t) W0 y = true := by
      unfold badLine
      rw [hcut]
      have e1 : ((Q.take W).map inkC).isEmpty = false := by
        cases hh : (Q.take W).map inkC with
        | nil => have := congrArg List.length hh; rw [List.length_map, hl] at this; simp at this; omega
        | cons _ _ => rfl
      simp only [e1, ink_dot, Bool.not_true, Bool.false_or, Bool.and_eq_true, decide_eq_true_eq, Bool.not_eq_true', decide_eq_false_iff_not, not_and, Classical.not_not, List.length_map, hl]
      intro h
      exact (hy h).symm
    have e2 : (Q.take W).map ((fun x => x == 35) ∘ inkC) = Q.take W := by
      conv => rhs; rw [← List.map_id (Q.take W)]
      exact List.map_congr_left fun b _ => inkC_eq b
    have e3 : (if k = 0 then W else W) = W := by split <;> rfl
    have ih := rowsF_read k (y + 1) W (Q.drop W) (P ++ Q.take W) t W hW (by rw [List.length_drop]; omega) (fun _ => rfl)
    rw [e3, List.append_assoc, List.take_append_drop] at ih
    rw [if_neg hb, hcut]
    simp only [List.length_map, hl, List.map_map]
    rw [e2, ih, if_neg (Nat.succ_ne_zero k)]
theorem rowsL_pr : ∀ (k : Nat) (W : Nat) (P : List Bool), P.length = k * W → rowsL W k P = behindL P W 0 k := by
  have shift : ∀ (k y W : Nat) (P : List Bool), P.length = (y + k) * W → rowsL W k (P.drop (y * W)) = behindL P W y k := by
    intro k
    induction k with
    | zero => intro y W P _; rfl
    | succ k ih =>
      intro y W P h
      show ((P.drop (y * W)).take W).map inkC ++ 10 :: rowsL W k ((P.drop (y * W)).drop W) = rowTo P W y W ++ 10 :: behindL P W (y + 1) k
      have hle : y * W + W ≤ P.length := by
        rw [h, Nat.add_mul, Nat.succ_mul]
        omega
      have h1 := row_take (bs := P) (W := W) (y := y) hle
      have h2 : rowTo P W y W = ((P.drop (y * W)).take W).map inkC := by
        rw [← h1, List.map_map]
        conv => lhs; rw [← List.map_id (rowTo P W y W)]
        refine List.map_congr_left fun b hb => ?_
        unfold rowTo at hb
        obtain ⟨x, -, rfl⟩ := List.mem_map.1 hb
        show inkC _ = inkC (inkC _ == 35)
        rw [inkC_eq]
      rw [← h2, List.drop_drop, show y * W + W = (y + 1) * W by rw [Nat.succ_mul], ih (y + 1) W P (by rw [h]; congr 1; omega)]
  intro k W P h
  have := shift k 0 W P (by rw [Nat.zero_add]; exact h)
  rw [Nat.zero_mul, List.drop_zero] at this
  exact this
theorem prL_rows {k W : Nat} {P : List Bool} (h : P.length = k * W) : prL P W k = rowsL W k P := by
  rw [rowsL_pr k W P h]
  have := pr_behind P W k 0
  rw [Nat.zero_add] at this
  exact this.symm
end Go.Proofs.YtjelhdpcaileiaaGreatDoor
