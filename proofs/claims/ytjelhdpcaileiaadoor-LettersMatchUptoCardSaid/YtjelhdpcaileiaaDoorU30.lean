/- The plain law of spelling: of the letters that a text begins with the longest one, the first of them; a space by itself. -/
import Derived.Test.YtjelhdpcaileiaaDoorU1
import Derived.Lib.Strings

namespace Go.Proofs.YtjelhdpcaileiaaDoor
open Go.RowKit

def txtOf (ls : List Ltr) (k : Nat) : List UInt8 := (ls[k]?.map Ltr.text).getD []
theorem txtOf_at {ls : List Ltr} {k : Nat} {l : Ltr} (h : ls[k]? = some l) : txtOf ls k = l.text := by unfold txtOf; rw [h]; rfl
/-- The number of the longest letter that a text begins with, of the first i; -1: there is none. -/
def longest (ls : List Ltr) (t : List UInt8) : Nat → Int
  | 0 => -1
  | i + 1 => if Lib.hasPrefix t (txtOf ls i) = true ∧ (longest ls t i < 0 ∨ (txtOf ls (longest ls t i).toNat).length < (txtOf ls i).length) then (i : Int) else longest ls t i
theorem longest_in (ls : List Ltr) (t : List UInt8) : ∀ i, longest ls t i = -1 ∨ ∃ k : Nat, k < i ∧ longest ls t i = (k : Int) ∧ Lib.hasPrefix t (txtOf ls k) = true
  | 0 => .inl rfl
  | i + 1 => by
    have ih := longest_in ls t i
    unfold longest
    split
    · rename_i h
      exact .inr ⟨i, by omega, rfl, h.1⟩
    · rcases ih with h | ⟨k, h1, h2, h3⟩
      · exact .inl h
      · exact .inr ⟨k, by omega, h2, h3⟩
/-- What a text begins with. -/
def headOf (ls : List Ltr) (t : List UInt8) : Int := longest ls t ls.length
theorem headOf_in (ls : List Ltr) (t : List UInt8) (h : 0 ≤ headOf ls t) : ∃ k : Nat, k < ls.length ∧ headOf ls t = (k : Int) ∧ Lib.hasPrefix t (txtOf ls k) = true := by
  rcases longest_in ls t ls.length with e | h2
  · unfold headOf at h; omega
  · exact h2
theorem hasPrefix_len {t p : List UInt8} (h : Lib.hasPrefix t p = true) : p.length ≤ t.length := by
  unfold Lib.hasPrefix at h
  exact (List.isPrefixOf_iff_prefix.1 h).length_le
/-- The letters of a text, a space as none. -/
def speltN (ls : List Ltr) : Nat → List UInt8 → Option (List (Option Nat))
  | _, [] => some []
  | 0, _ :: _ => none
  | n + 1, c :: t =>
    if c = 32 then (speltN ls n t).map (none :: ·)
    else if headOf ls (c :: t) < 0 then none
    else (speltN ls n ((c :: t).drop (txtOf ls (headOf ls (c :: t)).toNat).length)).map (some (headOf ls (c :: t)).toNat :: ·)
def spelt (ls : List Ltr) (t : List UInt8) : Option (List (Option Nat)) := speltN ls t.length t
/-- No letter is without a text, none begins with a space. -/
def Texts (ls : List Ltr) : Prop := ∀ k, k < ls.length → 1 ≤ (txtOf ls k).length ∧ (txtOf ls k).length ≤ 4 ∧ ∀ b ∈ txtOf ls k, b ≠ 32
theorem speltN_enough {ls : List Ltr} (hT : Texts ls) : ∀ (n m : Nat) (t : List UInt8), t.length ≤ n → t.length ≤ m → speltN ls n t = speltN ls m t := by
  intro n
  induction n with
  | zero =>
    intro m t hn _
    have : t = [] := List.eq_nil_of_length_eq_zero (by omega)
    subst this
    cases m <;> rfl
  | succ n ih =>
    intro m t hn hm
    cases t with
    | nil => cases m <;> rfl
    | cons c t =>
      cases m with
      | zero => simp at hm
      | succ m =>
        simp only [List.length_cons] at hn hm
        unfold speltN
        split
        · rw [ih m t (by omega) (by omega)]
        · split
          · rfl
          · rename_i h1 h2
            obtain ⟨k, hk, e, hp⟩ := headOf_in ls (c :: t) (by omega)
            rw [e]
            have h3 := (hT k hk).1
            simp only [Int.toNat_natCast]
            rw [ih m _ (by rw [List.length_drop, List.length_cons]; omega) (by rw [List.length_drop, List.length_cons]; omega)]
theorem spelt_nil (ls : List Ltr) : spelt ls [] = some [] := rfl
theorem spelt_cons (ls : List Ltr) (c : UInt8) (t : List UInt8) : spelt ls (c :: t) = if c = 32 then (speltN ls t.length t).map (none :: ·) else if headOf ls (c :: t) < 0 then none
    else (speltN ls t.length ((c :: t).drop (txtOf ls (headOf ls (c :: t)).toNat).length)).map (some (headOf ls (c :: t)).toNat :: ·) := rfl
theorem spelt_space {ls : List Ltr} (t : List UInt8) : spelt ls (32 :: t) = (spelt ls t).map (none :: ·) := by
  rw [spelt_cons, if_pos rfl]
  rfl
theorem spelt_none {ls : List Ltr} {c : UInt8} {t : List UInt8} (hc : c ≠ 32) (h : headOf ls (c :: t) < 0) : spelt ls (c :: t) = none := by
  rw [spelt_cons, if_neg hc, if_pos h]
theorem spelt_letter {ls : List Ltr} (hT : Texts ls) {c : UInt8} {t : List UInt8} {k : Nat} (hc : c ≠ 32) (h : headOf ls (c :: t) = (k : Int)) (hk : k < ls.length) :
    spelt ls (c :: t) = (spelt ls ((c :: t).drop (txtOf ls k).length)).map (some k :: ·) := by
  rw [spelt_cons, if_neg hc, if_neg (by omega), h]
  simp only [Int.toNat_natCast]
  have h3 := (hT k hk).1
  unfold spelt
  rw [speltN_enough hT t.length ((c :: t).drop (txtOf ls k).length).length _ (by rw [List.length_drop, List.length_cons]; omega) (Nat.le_refl _)]

/-! ### where the letters come to stand -/
def wdOf (ls : List Ltr) (k : Nat) : Nat := ((ls[k]?.map fun l => l.W.toNat).getD 0)
/-- How far one is, and whether a letter stands beside. -/
abbrev Spot := Nat × Bool
def spotOf (gap : Nat) (s : Spot) : Nat := if s.2 = true then s.1 + gap else s.1
def goOn (ls : List Ltr) (gap sp : Nat) (s : Spot) : Option Nat → Spot
  | none => (s.1 + sp, false)
  | some k => (spotOf gap s + wdOf ls k, true)
def goAll (ls : List Ltr) (gap sp : Nat) (s : Spot) (l : List (Option Nat)) : Spot := l.foldl (goOn ls gap sp) s
/-- The letters, each with its column. -/
def putAt (ls : List Ltr) (gap sp : Nat) : Spot → List (Option Nat) → List (Nat × Nat)
  | _, [] => []
  | s, none :: l => putAt ls gap sp (goOn ls gap sp s none) l
  | s, some k :: l => (k, spotOf gap s) :: putAt ls gap sp (goOn ls gap sp s (some k)) l
theorem goAll_append (ls : List Ltr) (gap sp : Nat) (s : Spot) (a b : List (Option Nat)) : goAll ls gap sp s (a ++ b) = goAll ls gap sp (goAll ls gap sp s a) b := by unfold goAll; rw [List.foldl_append]
theorem putAt_append (ls : List Ltr) (gap sp : Nat) : ∀ (a b : List (Option Nat)) (s : Spot), putAt ls gap sp s (a ++ b) = putAt ls gap sp s a ++ putAt ls gap sp (goAll ls gap sp s a) b
  | [], _, _ => rfl
  | none :: a, b, s => putAt_append ls gap sp a b _
  | some k :: a, b, s => by
    show (k, spotOf gap s) :: putAt ls gap sp _ (a ++ b) = (k, spotOf gap s) :: (putAt ls gap sp _ a ++ _)
    rw [putAt_append ls gap sp a b]
    rfl

/-- What is spelled are letters. -/
theorem speltN_in {ls : List Ltr} : ∀ (n : Nat) (t : List UInt8) (l : List (Option Nat)), speltN ls n t = some l → ∀ k, some k ∈ l → k < ls.length := by
  intro n
  induction n with
  | zero =>
    intro t l h k hk
    cases t with
    | nil => have h := Option.some.inj h; subst h; cases hk
    | cons c t => cases h
  | succ n ih =>
    intro t l h k hk
    cases t with
    | nil => have h := Option.some.inj h; subst h; cases hk
    | cons c t =>
      unfold speltN at h
      split at h
      · obtain ⟨l', h1, rfl⟩ := Option.map_eq_some_iff.1 h
        rcases List.mem_cons.1 hk with hk | hk
        · cases hk
        · exact ih _ _ h1 k hk
      · split at h
        · cases h
        · rename_i h0
          obtain ⟨l', h1, rfl⟩ := Option.map_eq_some_iff.1 h
          rcases List.mem_cons.1 hk with hk | hk
          · obtain ⟨k', hk', e, -⟩ := headOf_in ls (c :: t) (by omega)
            have := Option.some.inj hk
            rw [e] at this
            simp at this
            omega
          · exact ih _ _ h1 k hk
theorem spelt_in {ls : List Ltr} {t : List UInt8} {l : List (Option Nat)} (h : spelt ls t = some l) : ∀ k, some k ∈ l → k < ls.length := speltN_in _ _ _ h
theorem goAll_succ {ls : List Ltr} {gap sp : Nat} {s : Spot} {l : List (Option Nat)} {i : Nat} {x : Option Nat} (h : l[i]? = some x) : goAll ls gap sp s (l.take (i + 1)) = goOn ls gap sp (goAll ls gap sp s (l.take i)) x := by
  rw [List.take_add_one, h, goAll_append]
  rfl
theorem goAll_le {ls : List Ltr} {gap sp : Nat} (hg : gap ≤ 16) (hs : sp ≤ 64) (hw : ∀ k, wdOf ls k ≤ 64) : ∀ (l : List (Option Nat)) (s : Spot), (goAll ls gap sp s l).1 ≤ s.1 + 80 * l.length
  | [], s => Nat.le_refl _
  | x :: l, s => by
    have ih := goAll_le hg hs hw l (goOn ls gap sp s x)
    have h1 : (goOn ls gap sp s x).1 ≤ s.1 + 80 := by
      cases x with
      | none => show s.1 + sp ≤ s.1 + 80; omega
      | some k =>
        show spotOf gap s + wdOf ls k ≤ s.1 + 80
        have := hw k
        unfold spotOf
        split <;> omega
    show (goAll ls gap sp (goOn ls gap sp s x) l).1 ≤ s.1 + 80 * (l.length + 1)
    omega
theorem wdOf_out {ls : List Ltr} {k : Nat} (h : ls.length ≤ k) : wdOf ls k = 0 := by unfold wdOf; rw [List.getElem?_eq_none h]; rfl

end Go.Proofs.YtjelhdpcaileiaaDoor
