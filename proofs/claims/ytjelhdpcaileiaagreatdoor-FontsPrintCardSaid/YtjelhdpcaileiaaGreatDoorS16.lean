/- glyph.put: the ink of a page laid upon another page, in place. -/
import Derived.Test.YtjelhdpcaileiaaGreatDoorS2
import Derived.Test.YtjelhdpcaileiaaGreatDoorS1
import Derived.Test.YtjelhdpcaileiaaGreatDoorS0
import Derived.Lib.Strings

namespace Go.Proofs.YtjelhdpcaileiaaGreatDoor
open Go.RowKit

def txtOf (ls : List Ltr) (k : Nat) : List UInt8 := (ls[k]?.map Ltr.text).getD []
theorem txtOf_at {ls : List Ltr} {k : Nat} {l : Ltr} (h : ls[k]? = some l) : txtOf ls k = l.text := by unfold txtOf; rw [h]; rfl
/-- The number of the longest letter that a text begins with, of the first i; -1: there is none. -/
def longest (ls : List Ltr) (t : List UInt8) : Nat → Int
  | 0 => -1
  | i + 1 => if Lib.hasPrefix t (txtOf ls i) = true ∧ (longest ls t i < 0 ∨ (txtOf ls (longest ls t i).toNat).length < (txtOf ls i).length) then (i : Int) else longest ls t i
theorem longest_in (ls : List Ltr) (t : List UInt8) : ∀ i, longest ls t i = -1 ∨ ∃ k : Nat, k < i ∧ longest ls t i = (k : Int) ∧ Lib.hasPrefix t (txtOf ls k) = true
  | 0 => .inl rfl
  | i + 1 => by
    have ih := longest_in ls t i
    unfold longest
    split
    · rename_i h
      exact .inr ⟨i, by omega, rfl, h.1⟩
    · rcases ih with h | ⟨k, h1, h2, h3⟩
      · exact .inl h
      · exact .inr ⟨k, by omega, h2, h3⟩
/-- What a text begins with. -/
def headOf (ls : List Ltr) (t : List UInt8) : Int := longest ls t ls.length
theorem headOf_in (ls : List Ltr) (t : List UInt8) (h : 0 ≤ headOf ls t) : ∃ k : Nat, k < ls.length ∧ headOf ls t = (k : Int) ∧ Lib.hasPrefix t (txtOf ls k) = true := by
  rcases longest_in ls t ls.length with e | h2
  · unfold headOf at h; omega
  · exact h2
theorem hasPrefix_len {t p : List UInt8} (h : Lib.hasPrefix t p = true) : p.length ≤ t.length := by
  unfold Lib.hasPrefix at h
  exact (List.isPrefixOf_iff_prefix.1 h).length_le
/-- The letters of a text, a space as none. -/
def speltN (ls : List Ltr) : Nat → List UInt8 → Option (List (Option Nat))
  | _, [] => some []
  | 0, _ :: _ => none
  | n + 1, c :: t =>
    if c = 32 then (speltN ls n t).map (none :: ·)
    else if headOf ls (c :: t) < 0 then none
    else (speltN ls n ((c :: t).drop (txtOf ls (headOf ls (c :: t)).toNat).length)).map (some (headOf ls (c :: t)).toNat :: ·)
def spelt (ls : List Ltr) (t : List UInt8) : Option (List (Option Nat)) := speltN ls t.length t
/-- No letter is without a text, none begins with a space. -/
def Texts (ls : List Ltr) : Prop := ∀ k, k < ls.length → 1 ≤ (txtOf ls k).length ∧ (txtOf ls k).length ≤ 4 ∧ ∀ b ∈ txtOf ls k, b ≠ 32
theorem speltN_enough {ls : List Ltr} (hT : Texts ls) : ∀ (n m : Nat) (t : List UInt8), t.length ≤ n → t.length ≤ m → speltN ls n t = speltN ls m t := by
  intro n
  induction n with
  | zero =>
    intro m t hn _
    have : t = [] := List.eq_nil_of_length_eq_zero (by omega)
    subst this
    cases m <;> rfl
  | succ n ih =>
    intro m t hn hm
    cases t with
    | nil => cases m <;> rfl
    | cons c t =>
      cases m with
      | zero => simp at hm
      | succ m =>
        simp only [List.length_cons] at hn hm
        unfold speltN
        split
        · rw [ih m t (by omega) (by omega)]
        · split
          · rfl
          · rename_i h1 h2
            obtain ⟨k, hk, e, hp⟩ := headOf_in ls (c :: t) (by omega)
            rw [e]
            have h3 := (hT k hk).1
            simp only [Int.toNat_natCast]
            rw [ih m _ (by rw [List.length_drop, List.length_cons]; omega) (by rw [List.length_drop, List.length_cons]; omega)]
theorem spelt_nil (ls : List Ltr) : spelt ls [] = some [] := rfl
theorem spelt_cons (ls : List Ltr) (c : UInt8) (t : List UInt8) : spelt ls (c :: t) = if c = 32 then (speltN ls t.length t).map (none :: ·) else if headOf ls (c :: t) < 0 then none
    else (speltN ls t.length ((c :: t).drop (txtOf ls (headOf ls (c :: t)).toNat).length)).map (some (headOf ls (c :: t)).toNat :: ·) := rfl
theorem spelt_space {ls : List Ltr} (t : List UInt8) : spelt ls (32 :: t) = (spelt ls t).map (none :: ·) := by
  rw [spelt_cons, if_pos rfl]
  rfl
theorem spelt_none {ls : List Ltr} {c : UInt8} {t : List UInt8} (hc : c ≠ 32) (h : headOf ls (c :: t) < 0) : spelt ls (c :: t) = none := by
  rw [spelt_cons, if_neg hc, if_pos h]
theorem spelt_letter {ls : List Ltr} (hT : Texts ls) {c : UInt8} {t : List UInt8} {k : Nat} (hc : c ≠ 32) (h : headOf ls (c :: t) = (k : Int)) (hk : k < ls.length) :
    spelt ls (c :: t) = (spelt ls ((c :: t).drop (txtOf ls k).length)).map (some k :: ·) := by
  rw [spelt_cons, if_neg hc, if_neg (by omega), h]
  simp only [Int.toNat_natCast]
  have h3 := (hT k hk).1
  unfold spelt
  rw [speltN_enough hT t.length ((c :: t).drop (txtOf ls k).length).length _ (by rw [List.length_drop, List.length_cons]; omega) (Nat.le_refl _)]

/-! ### where the letters come to stand -/
def wdOf (ls : List Ltr) (k : Nat) : Nat := ((ls[k]?.map fun l => l.W.toNat).getD 0)
/-- How far one is, and whether a letter stands beside. -/
abbrev Spot := Nat × Bool
def spotOf (gap : Nat) (s : Spot) : Nat := if s.2 = true then s.1 + gap else s.1
def goOn (ls : List Ltr) (gap sp : Nat) (s : Spot) : Option Nat → Spot
  | none => (s.1 + sp, false)
  | some k => (spotOf gap s + wdOf ls k, true)
def goAll (ls : List Ltr) (gap sp : Nat) (s : Spot) (l : List (Option Nat)) : Spot := l.foldl (goOn ls gap sp) s
/-- The letters, each with its column. -/
def putAt (ls : List Ltr) (gap sp : Nat) : Spot → List (Option Nat) → List (Nat × Nat)
  | _, [] => []
  | s, none :: l => putAt ls gap sp (goOn ls gap sp s none) l
  | s, some k :: l => (k, spotOf gap s) :: putAt ls gap sp (goOn ls gap sp s (some k)) l
theorem goAll_append (ls : List Ltr) (gap sp : Nat) (s : Spot) (a b : List (Option Nat)) : goAll ls gap sp s (a ++ b) = goAll ls gap sp (goAll ls gap sp s a) b := by unfold goAll; rw [List.foldl_append]
theorem putAt_append (ls : List Ltr) (gap sp : Nat) : ∀ (a b : List (Option Nat)) (s : Spot), putAt ls gap sp s (a ++ b) = putAt ls gap sp s a ++ putAt ls gap sp (goAll ls gap sp s a) b
  | [], _, _ => rfl
  | none :: a, b, s => putAt_append ls gap sp a b _
  | some k :: a, b, s => by
    show (k, spotOf gap s) :: putAt ls gap sp _ (a ++ b) = (k, spotOf gap s) :: (putAt ls gap sp _ a ++ _)
    rw [putAt_append ls gap sp a b]
    rfl

/-- What is spelled are letters. -/
theorem speltN_in {ls : List Ltr} : ∀ (n : Nat) (t : List UInt8) (l : List (Option Nat)), speltN ls n t = some l → ∀ k, some k ∈ l → k < ls.length := by
  intro n
  induction n with
  | zero =>
    intro t l h k hk
    cases t with
    | nil => have h := Option.some.inj h; subst h; cases hk
    | cons c t => cases h
  | succ n ih =>
    intro t l h k hk
    cases t with
    | nil => have h := Option.some.inj h; subst h; cases hk
    | cons c t =>
      unfold speltN at h
      split at h
      · obtain ⟨l', h1, rfl⟩ := Option.map_eq_some_iff.1 h
        rcases List.mem_cons.1 hk with hk | hk
        · cases hk
        · exact ih _ _ h1 k hk
      · split at h
        · cases h
        · rename_i h0
          obtain ⟨l', h1, rfl⟩ := Option.map_eq_some_iff.1 h
          rcases List.mem_cons.1 hk with hk | hk
          · obtain ⟨k', hk', e, -⟩ := headOf_in ls (c :: t) (by omega)
            have := Option.some.inj hk
            rw [e] at this
            simp at this
            omega
          · exact ih _ _ h1 k hk
theorem spelt_in {ls : List Ltr} {t : List UInt8} {l : List (Option Nat)} (h : spelt ls t = some l) : ∀ k, some k ∈ l → k < ls.length := speltN_in _ _ _ h
theorem goAll_succ {ls : List Ltr} {gap sp : Nat} {s : Spot} {l : List (Option Nat)} {i : Nat} {x : Option Nat} (h : l[i]? = some x) : goAll ls gap sp s (l.take (i + 1)) = goOn ls gap sp (goAll ls gap sp s (l.take i)) x := by
  rw [List.take_add_one, h, goAll_append]
  rfl
theorem goAll_le {ls : List Ltr} {gap sp : Nat} (hg : gap ≤ 16) (hs : sp ≤ 64) (hw : ∀ k, wdOf ls k ≤ 64) : ∀ (l : List (Option Nat)) (s : Spot), (goAll ls gap sp s l).1 ≤ s.1 + 80 * l.length
  | [], s => Nat.le_refl _
  | x :: l, s => by
    have ih := goAll_le hg hs hw l (goOn ls gap sp s x)
    have h1 : (goOn ls gap sp s x).1 ≤ s.1 + 80 := by
      cases x with
      | none => show s.1 + sp ≤ s.1 + 80; omega
      | some k =>
        show spotOf gap s + wdOf ls k ≤ s.1 + 80
        have := hw k
        unfold spotOf
        split <;> omega
    show (goAll ls gap sp (goOn ls gap sp s x) l).1 ≤ s.1 + 80 * (l.length + 1)
    omega
theorem wdOf_out {ls : List Ltr} {k : Nat} (h : ls.length ≤ k) : wdOf ls k = 0 := by unfold wdOf; rw [List.getElem?_eq_none h]; rfl

end Go.Proofs.YtjelhdpcaileiaaGreatDoor


/-! The plain law of a text that is set: where ink is. -/
namespace Go.Proofs.YtjelhdpcaileiaaGreatDoor
open Go.RowKit

def bsOf (ls : List Ltr) (k : Nat) : List Bool := (ls[k]?.map Ltr.bs).getD []
theorem bsOf_at {ls : List Ltr} {k : Nat} {l : Ltr} (h : ls[k]? = some l) : bsOf ls k = l.bs := by unfold bsOf; rw [h]; rfl
theorem wdOf_at {ls : List Ltr} {k : Nat} {l : Ltr} (h : ls[k]? = some l) : wdOf ls k = l.W.toNat := by unfold wdOf; rw [h]; rfl
/-- The ink of a letter that stands at a column. -/
def litAt (ls : List Ltr) (p : Nat × Nat) (x y : Nat) : Bool := decide (p.2 ≤ x) && (decide (x < p.2 + wdOf ls p.1) && pix (bsOf ls p.1) (wdOf ls p.1) (x - p.2) y)
def setF (ls : List Ltr) (pl : List (Nat × Nat)) (x y : Nat) : Bool := pl.any fun p => litAt ls p x y
theorem setF_append (ls : List Ltr) (a b : List (Nat × Nat)) (x y : Nat) : setF ls (a ++ b) x y = (setF ls a x y || setF ls b x y) := by unfold setF; rw [List.any_append]
theorem setF_one (ls : List Ltr) (p : Nat × Nat) (x y : Nat) : setF ls [p] x y = litAt ls p x y := by unfold setF; simp
theorem setF_out {ls : List Ltr} {pl : List (Nat × Nat)} {x y : Nat} (h : ∀ p ∈ pl, p.2 + wdOf ls p.1 ≤ x) : setF ls pl x y = false := by
  unfold setF
  rw [List.any_eq_false]
  intro p hp
  have := h p hp
  unfold litAt
  simp
  omega
theorem litAt_in {ls : List Ltr} {k at_ i y : Nat} (hi : i < wdOf ls k) : litAt ls (k, at_) (at_ + i) y = pix (bsOf ls k) (wdOf ls k) i y := by
  unfold litAt
  rw [decide_eq_true (show at_ ≤ at_ + i by omega), decide_eq_true (show at_ + i < at_ + wdOf ls k by omega), show at_ + i - at_ = i by omega]
  simp
/-- How far one comes. -/
theorem goOn_le {ls : List Ltr} {gap sp : Nat} (s : Spot) (x : Option Nat) : s.1 ≤ (goOn ls gap sp s x).1 := by
  cases x with
  | none => show s.1 ≤ s.1 + sp; omega
  | some k => show s.1 ≤ spotOf gap s + wdOf ls k; unfold spotOf; split <;> omega
theorem goAll_mono {ls : List Ltr} {gap sp : Nat} : ∀ (l : List (Option Nat)) (s : Spot), s.1 ≤ (goAll ls gap sp s l).1
  | [], _ => Nat.le_refl _
  | x :: l, s => Nat.le_trans (goOn_le s x) (goAll_mono l _)
theorem goAll_take {ls : List Ltr} {gap sp : Nat} (l : List (Option Nat)) (s : Spot) (i : Nat) : (goAll ls gap sp s (l.take i)).1 ≤ (goAll ls gap sp s l).1 := by
  have e : l = l.take i ++ l.drop i := (List.take_append_drop i l).symm
  conv => rhs; rw [e]
  rw [goAll_append]
  exact goAll_mono _ _
/-- What stands ends ahead of where one is. -/
theorem putAt_end {ls : List Ltr} {gap sp : Nat} : ∀ (l : List (Option Nat)) (s : Spot), ∀ p ∈ putAt ls gap sp s l, p.2 + wdOf ls p.1 ≤ (goAll ls gap sp s l).1
  | [], _, p, hp => by cases hp
  | none :: l, s, p, hp => putAt_end l _ p hp
  | some k :: l, s, p, hp => by
    rcases List.mem_cons.1 hp with rfl | hp
    · show spotOf gap s + wdOf ls k ≤ (goAll ls gap sp (goOn ls gap sp s (some k)) l).1
      exact goAll_mono l (goOn ls gap sp s (some k))
    · exact putAt_end l _ p hp
theorem putAt_succ_none {ls : List Ltr} {gap sp : Nat} {s : Spot} {l : List (Option Nat)} {i : Nat} (h : l[i]? = some none) : putAt ls gap sp s (l.take (i + 1)) = putAt ls gap sp s (l.take i) := by
  rw [List.take_add_one, h, putAt_append]
  simp [putAt]
theorem putAt_succ_some {ls : List Ltr} {gap sp : Nat} {s : Spot} {l : List (Option Nat)} {i k : Nat} (h : l[i]? = some (some k)) : putAt ls gap sp s (l.take (i + 1)) = putAt ls gap sp s (l.take i) ++ [(k, spotOf gap (goAll ls gap sp s (l.take i)))] := by
  rw [List.take_add_one, h, putAt_append]
  rfl
/-- While a letter is drawn, row by row. -/
def midF (ls : List Ltr) (pl : List (Nat × Nat)) (p : Nat × Nat) (W y i k : Nat) : Bool := setF ls pl (k % W) (k / W) || (litAt ls p (k % W) (k / W) && decide (k / W < y ∨ (k / W = y ∧ k % W < p.2 + i)))
theorem midF_start (ls : List Ltr) (pl : List (Nat × Nat)) (p : Nat × Nat) (W k : Nat) : midF ls pl p W 0 0 k = setF ls pl (k % W) (k / W) := by
  unfold midF litAt
  by_cases h : p.2 ≤ k % W
  · rw [decide_eq_false (show ¬ (k / W < 0 ∨ (k / W = 0 ∧ k % W < p.2 + 0)) from fun hn => hn.elim (fun h1 => absurd h1 (Nat.not_lt_zero _)) (fun h1 => by have := h1.2; omega))]
    simp
  · rw [decide_eq_false h]
    simp
theorem midF_row (ls : List Ltr) (pl : List (Nat × Nat)) (p : Nat × Nat) (W y k : Nat) : midF ls pl p W (y + 1) 0 k = midF ls pl p W y (wdOf ls p.1) k := by
  unfold midF litAt
  by_cases h1 : p.2 ≤ k % W
  · by_cases h2 : k % W < p.2 + wdOf ls p.1
    · rw [decide_eq_true h1, decide_eq_true h2]
      congr 2
      rw [decide_eq_decide]
      omega
    · rw [decide_eq_false h2]; simp
  · rw [decide_eq_false h1]; simp
theorem midF_end {ls : List Ltr} {pl : List (Nat × Nat)} {p : Nat × Nat} {W H k : Nat} (hk : k / W < H) : midF ls pl p W H 0 k = setF ls (pl ++ [p]) (k % W) (k / W) := by
  unfold midF
  rw [decide_eq_true (.inl hk), setF_append, setF_one]
  simp
theorem midF_step {ls : List Ltr} {pl : List (Nat × Nat)} {l at_ W y i : Nat} (hW : at_ + i < W) (hi : i < wdOf ls l) (hpl : ∀ p ∈ pl, p.2 + wdOf ls p.1 ≤ at_) (k : Nat) :
    midF ls pl (l, at_) W y (i + 1) k = if k = y * W + at_ + i then pix (bsOf ls l) (wdOf ls l) i y else midF ls pl (l, at_) W y i k := by
  by_cases e : k = y * W + at_ + i
  · rw [if_pos e]
    have e1 : k % W = at_ + i := by rw [e, Nat.add_assoc, Nat.mul_comm, Nat.mul_add_mod]; exact Nat.mod_eq_of_lt hW
    have e2 : k / W = y := by rw [e, Nat.add_assoc, Nat.mul_comm, Nat.mul_add_div (by omega), Nat.div_eq_of_lt hW]; rfl
    unfold midF
    rw [e1, e2, setF_out (fun p hp => by have := hpl p hp; omega), litAt_in hi, decide_eq_true (.inr ⟨rfl, by omega⟩)]
    simp
  · rw [if_neg e]
    unfold midF
    congr 2
    rw [decide_eq_decide]
    have hne : ¬ (k / W = y ∧ k % W = at_ + i) := fun ⟨a, b⟩ => e (by
      have := Nat.div_add_mod k W
      rw [a, b, Nat.mul_comm] at this
      omega)
    show (k / W < y ∨ (k / W = y ∧ k % W < at_ + (i + 1))) ↔ (k / W < y ∨ (k / W = y ∧ k % W < at_ + i))
    omega

end Go.Proofs.YtjelhdpcaileiaaGreatDoor


/-! glyph.put: the ink of a page laid upon another page, in place. -/
namespace Go.Proofs.YtjelhdpcaileiaaGreatDoor
open Go.RowKit

/-- In the window, and the place in it. -/
def winB (wk hk x0 y0 x y : Nat) : Bool := decide (x0 ≤ x ∧ x < x0 + wk ∧ y0 ≤ y ∧ y < y0 + hk)
def putTo (f : Nat → Bool) (bs : List Bool) (wk hk x0 y0 W i k : Nat) : Bool := f k || (winB wk hk x0 y0 (k % W) (k / W) && (decide ((k / W - y0) * wk + (k % W - x0) < i) && pix bs wk (k % W - x0) (k / W - y0)))
def putF (f : Nat → Bool) (bs : List Bool) (wk hk x0 y0 W k : Nat) : Bool := f k || (winB wk hk x0 y0 (k % W) (k / W) && pix bs wk (k % W - x0) (k / W - y0))
theorem putTo_zero (f : Nat → Bool) (bs : List Bool) (wk hk x0 y0 W k : Nat) : putTo f bs wk hk x0 y0 W 0 k = f k := by unfold putTo; simp
theorem putTo_end (f : Nat → Bool) (bs : List Bool) (wk hk x0 y0 W k : Nat) : putTo f bs wk hk x0 y0 W (wk * hk) k = putF f bs wk hk x0 y0 W k := by
  unfold putTo putF
  cases h : winB wk hk x0 y0 (k % W) (k / W) with
  | false => simp
  | true =>
    unfold winB at h
    have h' := of_decide_eq_true h
    have hlt : (k / W - y0) * wk + (k % W - x0) < wk * hk := by
      have h1 : (k / W - y0 + 1) * wk ≤ hk * wk := Nat.mul_le_mul_right wk (by omega)
      rw [Nat.add_mul, Nat.one_mul] at h1
      rw [Nat.mul_comm wk hk]
      omega
    rw [decide_eq_true hlt]
    simp
theorem putTo_no {f : Nat → Bool} {bs : List Bool} {wk hk x0 y0 W i : Nat} (h : bs.getD i false = false) (k : Nat) : putTo f bs wk hk x0 y0 W (i + 1) k = putTo f bs wk hk x0 y0 W i k := by
  unfold putTo
  by_cases e : (k / W - y0) * wk + (k % W - x0) = i
  · have hp : pix bs wk (k % W - x0) (k / W - y0) = false := by unfold pix; rw [e]; exact h
    rw [hp]
    simp
  · have hd : decide ((k / W - y0) * wk + (k % W - x0) < i + 1) = decide ((k / W - y0) * wk + (k % W - x0) < i) := by rw [decide_eq_decide]; omega
    rw [hd]
theorem putTo_yes {f : Nat → Bool} {bs : List Bool} {wk hk x0 y0 W i : Nat} (h : bs.getD i false = true) (hi : i < wk * hk) (hx : x0 + wk ≤ W) (k : Nat) :
    putTo f bs wk hk x0 y0 W (i + 1) k = if k = (y0 + i / wk) * W + x0 + i % wk then true else putTo f bs wk hk x0 y0 W i k := by
  have hwk : 0 < wk := by
    rcases Nat.eq_zero_or_pos wk with h0 | h0
    · rw [h0, Nat.zero_mul] at hi
      omega
    · exact h0
  have hm0 : i % wk < wk := Nat.mod_lt _ hwk
  have hd0 : i / wk < hk := Nat.div_lt_of_lt_mul hi
  have hdm0 := Nat.div_add_mod i wk
  obtain ⟨xi, hxi⟩ : ∃ n, n = i % wk := ⟨_, rfl⟩
  obtain ⟨yi, hyi⟩ : ∃ n, n = i / wk := ⟨_, rfl⟩
  rw [← hxi] at hm0 hdm0 ⊢
  rw [← hyi] at hd0 hdm0 ⊢
  clear hxi hyi
  have hxm : x0 + xi < W := Nat.lt_of_lt_of_le (Nat.add_lt_add_left hm0 x0) hx
  have hW0 : 0 < W := Nat.lt_of_le_of_lt (Nat.zero_le _) hxm
  by_cases e : k = (y0 + yi) * W + x0 + xi
  · rw [if_pos e]
    have e1 : k % W = x0 + xi := by rw [e, Nat.add_assoc, Nat.mul_comm, Nat.mul_add_mod]; exact Nat.mod_eq_of_lt hxm
    have e2 : k / W = y0 + yi := by rw [e, Nat.add_assoc, Nat.mul_comm, Nat.mul_add_div hW0, Nat.div_eq_of_lt hxm]; rfl
    clear e
    unfold putTo winB pix
    rw [e1, e2, Nat.add_sub_cancel_left, Nat.add_sub_cancel_left, show yi * wk + xi = i by rw [Nat.mul_comm]; exact hdm0, h, decide_eq_true (show x0 ≤ x0 + xi ∧ x0 + xi < x0 + wk ∧ y0 ≤ y0 + yi ∧ y0 + yi < y0 + hk from ⟨by omega, by omega, by omega, by omega⟩), decide_eq_true (show i < i + 1 from Nat.lt_succ_self i)]
    simp
  · rw [if_neg e]
    unfold putTo
    have hkk := Nat.div_add_mod k W
    obtain ⟨x, hx'⟩ : ∃ n, n = k % W := ⟨_, rfl⟩
    obtain ⟨y, hy'⟩ : ∃ n, n = k / W := ⟨_, rfl⟩
    rw [← hx', ← hy'] at hkk
    rw [← hx', ← hy']
    clear hx' hy'
    cases hw : winB wk hk x0 y0 x y with
    | false => simp
    | true =>
      unfold winB at hw
      have hw' := of_decide_eq_true hw
      by_cases e3 : (y - y0) * wk + (x - x0) = i
      · refine absurd ?_ e
        have hwx : x - x0 < wk := by omega
        have e4 : x - x0 = xi := by
          have h1 : ((y - y0) * wk + (x - x0)) % wk = x - x0 := by rw [Nat.mul_comm, Nat.mul_add_mod]; exact Nat.mod_eq_of_lt hwx
          have h2 : (wk * yi + xi) % wk = xi := by rw [Nat.mul_add_mod]; exact Nat.mod_eq_of_lt hm0
          rw [e3] at h1
          rw [hdm0] at h2
          exact h1.symm.trans h2
        have e5 : y - y0 = yi := by
          have h1 : ((y - y0) * wk + (x - x0)) / wk = y - y0 := by rw [Nat.mul_comm, Nat.mul_add_div hwk, Nat.div_eq_of_lt hwx]; rfl
          have h2 : (wk * yi + xi) / wk = yi := by rw [Nat.mul_add_div hwk, Nat.div_eq_of_lt hm0]; rfl
          rw [e3] at h1
          rw [hdm0] at h2
          exact h1.symm.trans h2
        have e6 : y = y0 + yi := by omega
        have e7 : x = x0 + xi := by omega
        rw [← hkk, e6, e7, Nat.mul_comm, Nat.add_assoc]
      · have hd : decide ((y - y0) * wk + (x - x0) < i + 1) = decide ((y - y0) * wk + (x - x0) < i) := by rw [decide_eq_decide]; omega
        rw [hd]
/-- Nothing but the row is turned. -/
def PutRes (w0 : World) (g : Nat) (cs : Array Value) (w : World) (e : Ending) (w' : World) : Prop := e = .returned (.tuple #[]) ∧ Blk w' g 4 cs ∧ Bl w0 w' ∧ w.heap.size ≤ w'.heap.size ∧ ∀ p T c, p ≠ g → Blk w p T c → Blk w' p T c

end Go.Proofs.YtjelhdpcaileiaaGreatDoor
