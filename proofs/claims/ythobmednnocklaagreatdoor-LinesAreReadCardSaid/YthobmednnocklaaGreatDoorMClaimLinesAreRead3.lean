/- The plain law of a text that is set: where ink is. -/
import Derived.Test.YthobmednnocklaaGreatDoorMClaimLinesAreRead2
import Derived.Test.YthobmednnocklaaGreatDoorMClaimLinesAreRead1
import Derived.Test.YthobmednnocklaaGreatDoorMClaimLinesAreRead0
import Derived.Lib.TrimByte
import Derived.Lib.Strings

namespace Go.Proofs.YthobmednnocklaaGreatDoor
open Go.RowKit

/-- A piece: its first column, and how many. -/
abbrev Piece := Nat × Nat
def wider : List Piece → List Piece
 | [] => []
 | [p] => [(p.1, p.2 + 1)]
 | p :: q :: l => p :: wider (q :: l)
theorem wider_append (l : List Piece) (p : Piece) : wider (l ++ [p]) = l ++ [(p.1, p.2 + 1)] := by
 induction l with
 | nil => rfl
 | cons x l ih =>
  cases l with
  | nil => rfl
  | cons y l => show x :: wider (y :: l ++ [p]) = _; rw [ih]; rfl
/-- Is the column ahead inked? -/
def ahead (f : Nat → Nat) : Nat → Bool
 | 0 => false
 | k + 1 => decide (0 < f k)
def piecesTo (f : Nat → Nat) : Nat → List Piece
 | 0 => []
 | k + 1 => if f k = 0 then piecesTo f k else if ahead f k = true then wider (piecesTo f k) else piecesTo f k ++ [(k, 1)]
/-- Where the last piece ends. -/
theorem pieces_last (f : Nat → Nat) : ∀ k, (ahead f k = true → ∃ l p, piecesTo f k = l ++ [p] ∧ p.1 + p.2 = k) ∧ (ahead f k = false → piecesTo f k = [] ∨ ∃ l p, piecesTo f k = l ++ [p] ∧ p.1 + p.2 < k)
 | 0 => ⟨(fun h => by cases h), fun _ => Or.inl rfl⟩
 | k + 1 => by
  have ih := pieces_last f k
  constructor
  · intro h
    have hf : 0 < f k := of_decide_eq_true h
    show ∃ l p, (if f k = 0 then piecesTo f k else if ahead f k = true then wider (piecesTo f k) else piecesTo f k ++ [(k, 1)]) = l ++ [p] ∧ p.1 + p.2 = k + 1
    rw [if_neg (by omega)]
    cases ha : ahead f k
    · rw [if_neg (by simp)]
      exact ⟨_, _, rfl, rfl⟩
    · obtain ⟨l, p, e, hp⟩ := ih.1 ha
      rw [if_pos rfl, e, wider_append]
      exact ⟨l, _, rfl, by show p.1 + (p.2 + 1) = k + 1; omega⟩
  · intro h
    have hf : f k = 0 := by have : ¬ 0 < f k := of_decide_eq_false h; omega
    show (if f k = 0 then piecesTo f k else _) = [] ∨ ∃ l p, (if f k = 0 then piecesTo f k else _) = l ++ [p] ∧ p.1 + p.2 < k + 1
    rw [if_pos hf]
    cases ha : ahead f k
    · rcases ih.2 ha with h2 | ⟨l, p, e, hp⟩
      · exact .inl h2
      · exact .inr ⟨l, p, e, by omega⟩
    · obtain ⟨l, p, e, hp⟩ := ih.1 ha
      exact .inr ⟨l, p, e, by omega⟩
theorem wider_length : ∀ l : List Piece, (wider l).length = l.length
 | [] => rfl
 | [_] => rfl
 | _ :: q :: l => by show (wider (q :: l)).length + 1 = _; rw [wider_length (q :: l)]; rfl
theorem pieces_len (f : Nat → Nat) : ∀ k, (piecesTo f k).length ≤ k
 | 0 => Nat.le_refl _
 | k + 1 => by
  have ih := pieces_len f k
  show (if f k = 0 then piecesTo f k else if ahead f k = true then wider (piecesTo f k) else piecesTo f k ++ [(k, 1)]).length ≤ k + 1
  split
  · omega
  · split
    · rw [wider_length]; omega
    · rw [List.length_append]; simp; exact ih
/-- A piece lies within what was looked at, and is not empty. -/
theorem pieces_in (f : Nat → Nat) : ∀ k, ∀ p ∈ piecesTo f k, 1 ≤ p.2 ∧ p.1 + p.2 ≤ k
 | 0 => fun p hp => by cases hp
 | k + 1 => by
  have ih := pieces_in f k
  intro p hp
  change p ∈ (if f k = 0 then piecesTo f k else if ahead f k = true then wider (piecesTo f k) else piecesTo f k ++ [(k, 1)]) at hp
  split at hp
  · have := ih p hp; omega
  · split at hp
    · rename_i ha
      obtain ⟨l, q, e, hq⟩ := (pieces_last f k).1 ha
      rw [e, wider_append] at hp
      have hq2 := ih q (by rw [e]; simp)
      rcases List.mem_append.1 hp with h | h
      · have := ih p (by rw [e]; exact List.mem_append_left _ h); omega
      · rw [List.mem_singleton.1 h]
        show 1 ≤ q.2 + 1 ∧ q.1 + (q.2 + 1) ≤ k + 1
        omega
    · rcases List.mem_append.1 hp with h | h
      · have := ih p h; omega
      · rw [List.mem_singleton.1 h]
        show 1 ≤ 1 ∧ k + 1 ≤ k + 1
        omega
/-- The boxes of pieces, flat. -/
def boxCells (H : Nat) (l : List Piece) : List Value := l.flatMap fun p => [.int .i64 p.1, .int .i64 0, .int .i64 p.2, .int .i64 H]
theorem boxCells_append (H : Nat) (a b : List Piece) : boxCells H (a ++ b) = boxCells H a ++ boxCells H b := by unfold boxCells; rw [List.flatMap_append]
theorem boxCells_len (H : Nat) (l : List Piece) : (boxCells H l).length = l.length * 4 := by
 unfold boxCells
 induction l with
 | nil => rfl
 | cons x l ih =>
  rw [List.flatMap_cons, List.length_append, ih, List.length_cons]
  show 4 + l.length * 4 = (l.length + 1) * 4
  omega
theorem boxCells_at {H : Nat} {l : List Piece} {i : Nat} {p : Piece} (h : l[i]? = some p) (j : Nat) (hj : j < 4) : (boxCells H l)[i * 4 + j]? = ([.int .i64 p.1, .int .i64 0, .int .i64 p.2, .int .i64 H] : List Value)[j]? := by
 induction l generalizing i with
 | nil => simp at h
 | cons x l ih =>
  unfold boxCells
  rw [List.flatMap_cons]
  rcases i with _ | i
  · simp only [List.getElem?_cons_zero, Option.some.injEq] at h
    subst h
    rw [List.getElem?_append_left (by show 0 * 4 + j < 4; omega)]
    simp
  · rw [List.getElem?_append_right (by show 4 ≤ (i + 1) * 4 + j; omega)]
    have e : (i + 1) * 4 + j - 4 = i * 4 + j := by omega
    show (boxCells H l)[(i + 1) * 4 + j - 4]? = _
    rw [e]
    exact ih (by simpa using h)
/-- The last box made wider: one cell is set. -/
theorem boxCells_wider (H : Nat) (l : List Piece) (p : Piece) : (boxCells H (l ++ [p])).set (l.length * 4 + 2) (.int .i64 ((p.2 : Int) + 1)) = boxCells H (wider (l ++ [p])) := by
 rw [wider_append, boxCells_append, boxCells_append]
 rw [List.set_append_right _ _ (by rw [boxCells_len]; omega), boxCells_len]
 rw [show l.length * 4 + 2 - l.length * 4 = 2 by omega]
 rfl

end Go.Proofs.YthobmednnocklaaGreatDoor


/-! The plain law of what is seen of a piece: the nearest letter, and the next. -/
namespace Go.Proofs.YthobmednnocklaaGreatDoor
open Go.RowKit

/-- How far a letter is from a shape, at a reach of 1. -/
def farL (cs : List Bool) (W H : Nat) (l : Ltr) : Int := farN (inkF cs W H) (inkF l.bs l.W.toNat l.H.toNat) W H l.W.toNat l.H.toNat 1
/-- The nearest letter's text, how far it is, and the next. -/
abbrev Best := List UInt8 × Int × Int
def bestStep (cs : List Bool) (W H : Nat) (s : Best) (l : Ltr) : Best :=
 if l.W - (W : Int) < -2 ∨ 2 < l.W - (W : Int) then s
 else if s.2.1 < 0 ∨ farL cs W H l < s.2.1 then (l.text, farL cs W H l, s.2.1)
 else if s.2.2 < 0 ∨ farL cs W H l < s.2.2 then (s.1, s.2.1, farL cs W H l)
 else s
def bestOf (cs : List Bool) (W H : Nat) (t0 : List UInt8) (ls : List Ltr) : Best := ls.foldl (bestStep cs W H) (t0, -1, -1)
theorem bestOf_succ {cs : List Bool} {W H : Nat} {t0 : List UInt8} {ls : List Ltr} {i : Nat} {l : Ltr} (h : ls[i]? = some l) : bestOf cs W H t0 (ls.take (i + 1)) = bestStep cs W H (bestOf cs W H t0 (ls.take i)) l := by
 unfold bestOf
 rw [List.take_add_one, h, List.foldl_append]
 rfl
theorem far_range {W H W' H' r : Nat} {cs bs : List Bool} (hW : W ≤ 4000) (hH : H ≤ 4000) (hW' : W' ≤ 4000) (hH' : H' ≤ 4000) : 0 ≤ farN (inkF cs W H) (inkF bs W' H') W H W' H' r ∧ farN (inkF cs W H) (inkF bs W' H') W H W' H' r ≤ 32000000 := by
 have h1 := tally_ink cs W H
 have h2 := tally_ink bs W' H'
 have h3 := tally_le cs (W * H)
 have h4 := tally_le bs (W' * H')
 have h5 := Nat.mul_le_mul hW hH
 have h6 := Nat.mul_le_mul hW' hH'
 have hFm : mostN (shifted (inkF cs W H) (inkF bs W' H') W H W' H' r) ((2 * r + 1) * (2 * r + 1)) ≤ (inkA (inkF cs W H) W H + inkA (inkF bs W' H') W' H') / 2 := mostN_le fun idx hidx => by
  have e1 : idx / (2 * r + 1) < 2 * r + 1 := Nat.div_lt_of_lt_mul (by omega)
  have e2 : idx % (2 * r + 1) < 2 * r + 1 := Nat.mod_lt _ (by omega)
  have h7 : diffN (inkF cs W H) (inkF bs W' H') W H W' H' r (shiftX r idx) (shiftY r idx) + 2 * bothN (inkF cs W H) (inkF bs W' H') W H W' H' (shiftX r idx) (shiftY r idx) = inkA (inkF cs W H) W H + inkA (inkF bs W' H') W' H' := by
   unfold shiftX shiftY
   obtain ⟨a, ha⟩ : ∃ a, a = idx % (2 * r + 1) := ⟨_, rfl⟩
   obtain ⟨b, hb⟩ : ∃ b, b = idx / (2 * r + 1) := ⟨_, rfl⟩
   rw [← ha, ← hb]
   rw [← ha] at e2
   rw [← hb] at e1
   exact diff_both (inkF_held cs W H) (inkF_held bs W' H') (by omega) (by omega) (by omega) (by omega)
  unfold shifted
  omega
 unfold farN
 omega
/-- What holds of the best, whatever letters came. -/
theorem best_inv {cs : List Bool} {W H : Nat} (t0 : List UInt8) (hW : W ≤ 4000) (hH : H ≤ 4000) {ls : List Ltr} (hl : ∀ l ∈ ls, l.W ≤ 64 ∧ l.H ≤ 4000) : (bestOf cs W H t0 ls).2.1 = -1 ∧ (bestOf cs W H t0 ls).2.2 = -1 ∨ (0 ≤ (bestOf cs W H t0 ls).2.1 ∧ (bestOf cs W H t0 ls).2.1 ≤ 32000000 ∧ -1 ≤ (bestOf cs W H t0 ls).2.2 ∧ (bestOf cs W H t0 ls).2.2 ≤ 32000000) := by
 have key : ∀ (ls : List Ltr) (s : Best), (∀ l ∈ ls, l.W ≤ 64 ∧ l.H ≤ 4000) → (s.2.1 = -1 ∧ s.2.2 = -1 ∨ (0 ≤ s.2.1 ∧ s.2.1 ≤ 32000000 ∧ -1 ≤ s.2.2 ∧ s.2.2 ≤ 32000000)) →
  ((ls.foldl (bestStep cs W H) s).2.1 = -1 ∧ (ls.foldl (bestStep cs W H) s).2.2 = -1 ∨ (0 ≤ (ls.foldl (bestStep cs W H) s).2.1 ∧ (ls.foldl (bestStep cs W H) s).2.1 ≤ 32000000 ∧ -1 ≤ (ls.foldl (bestStep cs W H) s).2.2 ∧ (ls.foldl (bestStep cs W H) s).2.2 ≤ 32000000)) := by
  intro ls
  induction ls with
  | nil => intro s _ h; exact h
  | cons l ls ih =>
   intro s hl h
   refine ih (bestStep cs W H s l) (fun x hx => hl x (List.mem_cons_of_mem _ hx)) ?_
   have hll := hl l (List.mem_cons_self ..)
   have hr : 0 ≤ farL cs W H l ∧ farL cs W H l ≤ 32000000 := far_range hW hH (by omega) (by omega)
   unfold bestStep
   split
   · exact h
   · split
     · right
       show 0 ≤ farL cs W H l ∧ farL cs W H l ≤ 32000000 ∧ -1 ≤ s.2.1 ∧ s.2.1 ≤ 32000000
       omega
     · split
       · right
         show 0 ≤ s.2.1 ∧ s.2.1 ≤ 32000000 ∧ -1 ≤ farL cs W H l ∧ farL cs W H l ≤ 32000000
         omega
       · exact h
 exact key ls _ hl (.inl ⟨rfl, rfl⟩)
/-- What is seen of a piece. -/
def farOff (b : Best) (most ht w : Int) : Bool := decide (b.2.1 < 0 ∨ most * ht * w < b.2.1 * 1000)
def seenCells (b : Best) (X W H : Nat) (most ht : Int) : List Value :=
 if farOff b most ht W = true then [.string ⟨#[63]⟩, .int .i64 X, .int .i64 0, .int .i64 W, .int .i64 H, .int .i64 (-1), .int .i64 (-1)]
 else [.string ⟨b.1.toArray⟩, .int .i64 X, .int .i64 0, .int .i64 W, .int .i64 H, .int .i64 b.2.1, .int .i64 b.2.2]
end Go.Proofs.YthobmednnocklaaGreatDoor


/-! The plain law of Align and Nearest: both find the least number, the nearest of those, the first of those. -/
namespace Go.Proofs.YthobmednnocklaaGreatDoor

def le3 (num far : Nat → Nat) (i j : Nat) : Prop := num i < num j ∨ (num i = num j ∧ (far i < far j ∨ (far i = far j ∧ i ≤ j)))
theorem le3.anti {num far : Nat → Nat} {i j : Nat} (h : le3 num far i j) (k : le3 num far j i) : i = j := by
 unfold le3 at h k
 omega
def BestA (num far : Nat → Nat) (m b : Nat) : Prop := b < m ∧ ∀ j, j < m → le3 num far b j
theorem BestA.start (num far : Nat → Nat) : BestA num far 1 0 :=
 ⟨by omega, fun j hj => by obtain rfl : j = 0 := by omega
                           unfold le3; omega⟩
theorem BestA.take {num far : Nat → Nat} {m b : Nat} (h : BestA num far m b) (hm : num m < num b ∨ (num m = num b ∧ far m < far b)) : BestA num far (m + 1) m := by
 refine ⟨by omega, fun j hj => ?_⟩
 rcases Nat.lt_or_ge j m with hl | hl
 · have := h.2 j hl
   unfold le3 at this ⊢
   omega
 · obtain rfl : j = m := by omega
   unfold le3; omega
theorem BestA.keep {num far : Nat → Nat} {m b : Nat} (h : BestA num far m b) (hm : ¬ (num m < num b ∨ (num m = num b ∧ far m < far b))) : BestA num far (m + 1) b := by
 have hb := h.1
 refine ⟨by omega, fun j hj => ?_⟩
 rcases Nat.lt_or_ge j m with hl | hl
 · exact h.2 j hl
 · obtain rfl : j = m := by omega
   unfold le3; omega

def Seen (far : Nat → Nat) (K f m j : Nat) : Prop := j < K ∧ (far j < f ∨ (far j = f ∧ j < m))
def BestN (num far : Nat → Nat) (K f m b : Nat) : Prop := Seen far K f m b ∧ ∀ j, Seen far K f m j → le3 num far b j
theorem BestN.skip {num far : Nat → Nat} {K f m b : Nat} (h : BestN num far K f m b) (hf : far m ≠ f) : BestN num far K f (m + 1) b := by
 refine ⟨?_, fun j hj => h.2 j ?_⟩
 · have := h.1; unfold Seen at this ⊢; omega
 · unfold Seen at hj ⊢
   rcases Nat.lt_or_ge j m with hl | hl
   · omega
   · rcases hj with ⟨h1, h2 | ⟨h2, h3⟩⟩
     · omega
     · obtain rfl : j = m := by omega
       exact absurd h2 hf
theorem Seen.skip {far : Nat → Nat} {K f m : Nat} (h : ∀ j, ¬ Seen far K f m j) (hf : far m ≠ f) : ∀ j, ¬ Seen far K f (m + 1) j := by
 intro j hj
 refine h j ?_
 unfold Seen at hj ⊢
 rcases Nat.lt_or_ge j m with hl | hl
 · omega
 · rcases hj with ⟨h1, h2 | ⟨h2, h3⟩⟩
   · omega
   · obtain rfl : j = m := by omega
     exact absurd h2 hf
theorem BestN.first {num far : Nat → Nat} {K f m : Nat} (h : ∀ j, ¬ Seen far K f m j) (hm : m < K) (hf : far m = f) : BestN num far K f (m + 1) m := by
 refine ⟨⟨hm, Or.inr ⟨hf, by omega⟩⟩, fun j hj => ?_⟩
 have hn := h j
 unfold Seen at hj hn
 obtain rfl : j = m := by omega
 unfold le3; omega
theorem BestN.take {num far : Nat → Nat} {K f m b : Nat} (h : BestN num far K f m b) (hm : m < K) (hf : far m = f) (hn : num m < num b) : BestN num far K f (m + 1) m := by
 refine ⟨⟨hm, Or.inr ⟨hf, by omega⟩⟩, fun j hj => ?_⟩
 by_cases hs : Seen far K f m j
 · have := h.2 j hs
   unfold le3 at this ⊢
   omega
 · unfold Seen at hj hs
   obtain rfl : j = m := by omega
   unfold le3; omega
theorem BestN.keep {num far : Nat → Nat} {K f m b : Nat} (h : BestN num far K f m b) (hf : far m = f) (hn : ¬ num m < num b) : BestN num far K f (m + 1) b := by
 have hb := h.1
 refine ⟨by unfold Seen at hb ⊢; omega, fun j hj => ?_⟩
 by_cases hs : Seen far K f m j
 · exact h.2 j hs
 · unfold Seen at hj hs hb
   obtain rfl : j = m := by omega
   unfold le3; omega
/-- Both are the same place. -/
theorem best_same {num far : Nat → Nat} {K f b c : Nat} (h : BestA num far K b) (k : BestN num far K f 0 c) (hf : ∀ j, j < K → far j < f) : b = c :=
 le3.anti (h.2 c k.1.1) (k.2 b ⟨h.1, Or.inl (hf b h.1)⟩)
theorem seen_all {far : Nat → Nat} {K f : Nat} (h : ∀ j, ¬ Seen far K f 0 j) (hK : 0 < K) (hf : ∀ j, j < K → far j < f) : False := h 0 ⟨hK, Or.inl (hf 0 hK)⟩

/-! ### places by number -/
def dxOf (r j : Nat) : Int := ((j % (2 * r + 1) : Nat) : Int) - r
def dyOf (r j : Nat) : Int := ((j / (2 * r + 1) : Nat) : Int) - r
def farOf (r j : Nat) : Nat := (dxOf r j).natAbs + (dyOf r j).natAbs
theorem farOf_lt (r j : Nat) (hj : j < (2 * r + 1) * (2 * r + 1)) : farOf r j < 2 * r + 1 := by
 have h1 : j % (2 * r + 1) < 2 * r + 1 := Nat.mod_lt _ (by omega)
 have h2 : j / (2 * r + 1) < 2 * r + 1 := Nat.div_lt_of_lt_mul hj
 unfold farOf dxOf dyOf
 generalize j % (2 * r + 1) = a at h1 ⊢
 generalize j / (2 * r + 1) = b at h2 ⊢
 omega

/-- How many of the first n places differ. -/
def differs (bs cs : List Bool) (W H : Nat) (dx dy : Int) (i : Nat) : Bool := bs.getD i false != atI cs W H (((i % W : Nat) : Int) - dx) (((i / W : Nat) : Int) - dy)
/-! ### the state of the two searches -/
def StA (num : Nat → Nat) (r m : Nat) (x y n : Int) : Prop :=
 (m = 0 ∧ x = 0 ∧ y = 0 ∧ n = -1) ∨ ∃ b, BestA num (farOf r) m b ∧ x = dxOf r b ∧ y = dyOf r b ∧ n = num b
def StN (num : Nat → Nat) (r f m : Nat) (x y n : Int) (found : Bool) : Prop :=
 (found = false ∧ n = 0 ∧ ∀ j, ¬ Seen (farOf r) ((2 * r + 1) * (2 * r + 1)) f m j) ∨ (found = true ∧ ∃ b, BestN num (farOf r) ((2 * r + 1) * (2 * r + 1)) f m b ∧ x = dxOf r b ∧ y = dyOf r b ∧ n = num b)
theorem StA.same {num : Nat → Nat} {r : Nat} {x y n x' y' n' : Int} {found : Bool} (h : StA num r ((2 * r + 1) * (2 * r + 1)) x y n) (k : StN num r (2 * r + 1) 0 x' y' n' found) : x = x' ∧ y = y' ∧ n = n' := by
 have hK : 0 < (2 * r + 1) * (2 * r + 1) := Nat.mul_pos (by omega) (by omega)
 rcases h with ⟨h, _⟩ | ⟨b, hb, rfl, rfl, rfl⟩
 · omega
 · rcases k with ⟨_, _, k⟩ | ⟨_, c, hc, rfl, rfl, rfl⟩
   · exact absurd (seen_all k hK (farOf_lt r)) id
   · rw [best_same hb hc (farOf_lt r)]
     exact ⟨rfl, rfl, rfl⟩
/-- One place more in Align. -/
theorem StA.step {num : Nat → Nat} {r m : Nat} {x y n : Int} (h : StA num r m x y n) :
 (n < 0 ∨ (num m : Int) < n ∨ ((num m : Int) = n ∧ (farOf r m : Int) < x.natAbs + y.natAbs) → StA num r (m + 1) (dxOf r m) (dyOf r m) (num m)) ∧
 (¬ (n < 0 ∨ (num m : Int) < n ∨ ((num m : Int) = n ∧ (farOf r m : Int) < x.natAbs + y.natAbs)) → StA num r (m + 1) x y n) := by
 rcases h with ⟨rfl, rfl, rfl, rfl⟩ | ⟨b, hb, rfl, rfl, rfl⟩
 · exact ⟨fun _ => Or.inr ⟨0, BestA.start num _, rfl, rfl, rfl⟩, fun hn => absurd (Or.inl (by decide)) hn⟩
 · have e : ((dxOf r b).natAbs : Int) + (dyOf r b).natAbs = (farOf r b : Int) := by unfold farOf; simp
   rw [e]
   refine ⟨fun hc => Or.inr ⟨m, hb.take ?_, rfl, rfl, rfl⟩, fun hc => Or.inr ⟨b, hb.keep ?_, rfl, rfl, rfl⟩⟩
   · rcases hc with hc | hc | ⟨hc, hd⟩ <;> omega
   · omega
/-- One place more in Nearest. -/
theorem StN.skip {num : Nat → Nat} {r f m : Nat} {x y n : Int} {found : Bool} (h : StN num r f m x y n found) (hf : farOf r m ≠ f) : StN num r f (m + 1) x y n found := by
 rcases h with ⟨h1, h2, h3⟩ | ⟨h1, b, hb, h2⟩
 · exact Or.inl ⟨h1, h2, Seen.skip h3 hf⟩
 · exact Or.inr ⟨h1, b, hb.skip hf, h2⟩
theorem StN.take {num : Nat → Nat} {r f m : Nat} {x y n : Int} {found : Bool} (h : StN num r f m x y n found) (hm : m < (2 * r + 1) * (2 * r + 1)) (hf : farOf r m = f) (hc : found = false ∨ (num m : Int) < n) : StN num r f (m + 1) (dxOf r m) (dyOf r m) (num m) true := by
 rcases h with ⟨h1, h2, h3⟩ | ⟨h1, b, hb, rfl, rfl, rfl⟩
 · exact Or.inr ⟨rfl, m, BestN.first h3 hm hf, rfl, rfl, rfl⟩
 · have hlt : num m < num b := by
    rcases hc with hc | hc
    · simp [h1] at hc
    · omega
   exact Or.inr ⟨rfl, m, hb.take hm hf hlt, rfl, rfl, rfl⟩
theorem StN.keep {num : Nat → Nat} {r f m : Nat} {x y n : Int} {found : Bool} (h : StN num r f m x y n found) (hf : farOf r m = f) (hc : ¬ (found = false ∨ (num m : Int) < n)) : StN num r f (m + 1) x y n found := by
 rcases h with ⟨h1, h2, h3⟩ | ⟨h1, b, hb, rfl, rfl, rfl⟩
 · exact absurd (Or.inl h1) hc
 · exact Or.inr ⟨h1, b, hb.keep hf (by omega), rfl, rfl, rfl⟩
theorem StN.start (num : Nat → Nat) (r : Nat) (x y : Int) : StN num r 0 0 x y 0 false :=
 Or.inl ⟨rfl, rfl, fun j hj => by unfold Seen at hj; omega⟩

end Go.Proofs.YthobmednnocklaaGreatDoor


/-! The plain law of forms.find and bedref2.FoundOf: of the places that count, both find the one with the least number, the nearest of those, the first of those. -/
namespace Go.Proofs.YthobmednnocklaaGreatDoor

def BestO (ok : Nat → Bool) (num far : Nat → Nat) (m b : Nat) : Prop := b < m ∧ ok b = true ∧ ∀ j, j < m → ok j = true → le3 num far b j
/-- The state of forms.find. -/
def StO (ok : Nat → Bool) (num : Nat → Nat) (r m : Nat) (x y n : Int) : Prop :=
 ((∀ j, j < m → ok j = false) ∧ x = 0 ∧ y = 0 ∧ n = -1) ∨ ∃ b, BestO ok num (farOf r) m b ∧ x = dxOf r b ∧ y = dyOf r b ∧ n = num b
theorem StO.start (ok : Nat → Bool) (num : Nat → Nat) (r : Nat) : StO ok num r 0 0 0 (-1) := .inl ⟨fun _j hj => absurd hj (Nat.not_lt_zero _), rfl, rfl, rfl⟩
theorem StO.skip {ok : Nat → Bool} {num : Nat → Nat} {r m : Nat} {x y n : Int} (h : StO ok num r m x y n) (hk : ok m = false) : StO ok num r (m + 1) x y n := by
 rcases h with ⟨h1, h2⟩ | ⟨b, ⟨hb, hb2, hb3⟩, h2⟩
 · refine .inl ⟨fun j hj => ?_, h2⟩
   rcases Nat.lt_succ_iff_lt_or_eq.1 hj with hl | rfl
   · exact h1 j hl
   · exact hk
 · refine .inr ⟨b, ⟨by omega, hb2, fun j hj hj2 => ?_⟩, h2⟩
   rcases Nat.lt_succ_iff_lt_or_eq.1 hj with hl | rfl
   · exact hb3 j hl hj2
   · rw [hk] at hj2; cases hj2
theorem StO.step {ok : Nat → Bool} {num : Nat → Nat} {r m : Nat} {x y n : Int} (h : StO ok num r m x y n) (hk : ok m = true) :
 (n < 0 ∨ (num m : Int) < n ∨ ((num m : Int) = n ∧ (farOf r m : Int) < x.natAbs + y.natAbs) → StO ok num r (m + 1) (dxOf r m) (dyOf r m) (num m)) ∧
 (¬ (n < 0 ∨ (num m : Int) < n ∨ ((num m : Int) = n ∧ (farOf r m : Int) < x.natAbs + y.natAbs)) → StO ok num r (m + 1) x y n) := by
 rcases h with ⟨h1, rfl, rfl, rfl⟩ | ⟨b, ⟨hb, hb2, hb3⟩, rfl, rfl, rfl⟩
 · refine ⟨fun _ => .inr ⟨m, ⟨by omega, hk, fun j hj hj2 => ?_⟩, rfl, rfl, rfl⟩, fun hn => absurd (Or.inl (by decide)) hn⟩
   rcases Nat.lt_succ_iff_lt_or_eq.1 hj with hl | rfl
   · rw [h1 j hl] at hj2; cases hj2
   · unfold le3; omega
 · have e : ((dxOf r b).natAbs : Int) + (dyOf r b).natAbs = (farOf r b : Int) := by unfold farOf; simp
   rw [e]
   refine ⟨fun hc => .inr ⟨m, ⟨by omega, hk, fun j hj hj2 => ?_⟩, rfl, rfl, rfl⟩, fun hc => .inr ⟨b, ⟨by omega, hb2, fun j hj hj2 => ?_⟩, rfl, rfl, rfl⟩⟩
   · rcases Nat.lt_succ_iff_lt_or_eq.1 hj with hl | rfl
     · have := hb3 j hl hj2
       unfold le3 at this ⊢
       omega
     · unfold le3; omega
   · rcases Nat.lt_succ_iff_lt_or_eq.1 hj with hl | rfl
     · exact hb3 j hl hj2
     · unfold le3; omega
/-- The bounds of what is found. -/
theorem StO.bd {ok : Nat → Bool} {num : Nat → Nat} {r m : Nat} {x y n : Int} (h : StO ok num r m x y n) (hm : m ≤ (2 * r + 1) * (2 * r + 1)) (hr : r ≤ 40) : (-40 ≤ x ∧ x ≤ 40) ∧ (-40 ≤ y ∧ y ≤ 40) := by
 rcases h with ⟨_, rfl, rfl, _⟩ | ⟨b, hb, rfl, rfl, _⟩
 · omega
 · have h1 : b % (2 * r + 1) < 2 * r + 1 := Nat.mod_lt _ (by omega)
   have h2 : b / (2 * r + 1) < 2 * r + 1 := Nat.div_lt_of_lt_mul (Nat.lt_of_lt_of_le hb.1 hm)
   unfold dxOf dyOf
   generalize b % (2 * r + 1) = p at h1 ⊢
   generalize b / (2 * r + 1) = q at h2 ⊢
   omega
/-! ### bedref2.Nearest -/
def SeenO (ok : Nat → Bool) (far : Nat → Nat) (K f m j : Nat) : Prop := Seen far K f m j ∧ ok j = true
def BestP (ok : Nat → Bool) (num far : Nat → Nat) (K f m b : Nat) : Prop := SeenO ok far K f m b ∧ ∀ j, SeenO ok far K f m j → le3 num far b j
def StP (ok : Nat → Bool) (num : Nat → Nat) (r f m : Nat) (x y n : Int) (found : Bool) : Prop :=
 (found = false ∧ x = 0 ∧ y = 0 ∧ n = 0 ∧ ∀ j, ¬ SeenO ok (farOf r) ((2 * r + 1) * (2 * r + 1)) f m j) ∨ (found = true ∧ ∃ b, BestP ok num (farOf r) ((2 * r + 1) * (2 * r + 1)) f m b ∧ x = dxOf r b ∧ y = dyOf r b ∧ n = num b)
/-- Nothing new is seen at m: the state stays. -/
theorem Seen.succ {far : Nat → Nat} {K f m j : Nat} (h : Seen far K f (m + 1) j) : Seen far K f m j ∨ (j = m ∧ far m = f) := by
 unfold Seen at h ⊢
 rcases h with ⟨h1, h2 | ⟨h2, h3⟩⟩
 · exact .inl ⟨h1, .inl h2⟩
 · rcases Nat.lt_succ_iff_lt_or_eq.1 h3 with h | rfl
   · exact .inl ⟨h1, .inr ⟨h2, h⟩⟩
   · exact .inr ⟨rfl, h2⟩
theorem Seen.mono {far : Nat → Nat} {K f m j : Nat} (h : Seen far K f m j) : Seen far K f (m + 1) j := by
 unfold Seen at h ⊢
 omega
theorem StP.skip {ok : Nat → Bool} {num : Nat → Nat} {r f m : Nat} {x y n : Int} {found : Bool} (h : StP ok num r f m x y n found) (hf : farOf r m ≠ f ∨ ok m = false) : StP ok num r f (m + 1) x y n found := by
 have key : ∀ j, SeenO ok (farOf r) ((2 * r + 1) * (2 * r + 1)) f (m + 1) j → SeenO ok (farOf r) ((2 * r + 1) * (2 * r + 1)) f m j := fun j hj => by
  rcases hj.1.succ with h1 | ⟨rfl, h2⟩
  · exact ⟨h1, hj.2⟩
  · rcases hf with hf | hf
    · exact absurd h2 hf
    · have h3 := hj.2
      rw [hf] at h3; cases h3
 rcases h with ⟨h1, h2, h3, h4, h5⟩ | ⟨h1, b, ⟨hb, hb2⟩, h2⟩
 · exact .inl ⟨h1, h2, h3, h4, fun j hj => h5 j (key j hj)⟩
 · exact .inr ⟨h1, b, ⟨⟨hb.1.mono, hb.2⟩, fun j hj => hb2 j (key j hj)⟩, h2⟩
theorem StP.take {ok : Nat → Bool} {num : Nat → Nat} {r f m : Nat} {x y n : Int} {found : Bool} (h : StP ok num r f m x y n found) (hm : m < (2 * r + 1) * (2 * r + 1)) (hf : farOf r m = f) (hk : ok m = true) (hc : found = false ∨ (num m : Int) < n) : StP ok num r f (m + 1) (dxOf r m) (dyOf r m) (num m) true := by
 refine .inr ⟨rfl, m, ⟨⟨⟨hm, .inr ⟨hf, by omega⟩⟩, hk⟩, fun j hj => ?_⟩, rfl, rfl, rfl⟩
 rcases hj.1.succ with h1 | ⟨rfl, -⟩
 · rcases h with ⟨-, -, -, -, h5⟩ | ⟨hfd, b, ⟨hb, hb2⟩, -, -, hn⟩
   · exact absurd ⟨h1, hj.2⟩ (h5 j)
   · have hl := hb2 j ⟨h1, hj.2⟩
     have hlt : num m < num b := by
      rcases hc with hc | hc
      · rw [hfd] at hc; cases hc
      · omega
     unfold le3 at hl ⊢
     omega
 · unfold le3; omega
theorem StP.keep {ok : Nat → Bool} {num : Nat → Nat} {r f m : Nat} {x y n : Int} {found : Bool} (h : StP ok num r f m x y n found) (hf : farOf r m = f) (hc : ¬ (found = false ∨ (num m : Int) < n)) : StP ok num r f (m + 1) x y n found := by
 rcases h with ⟨h1, -⟩ | ⟨h1, b, ⟨hb, hb2⟩, rfl, rfl, rfl⟩
 · exact absurd (Or.inl h1) hc
 · refine .inr ⟨h1, b, ⟨⟨hb.1.mono, hb.2⟩, fun j hj => ?_⟩, rfl, rfl, rfl⟩
   rcases hj.1.succ with h2 | ⟨rfl, h2⟩
   · exact hb2 j ⟨h2, hj.2⟩
   · have hb3 := hb.1
     unfold Seen at hb3
     unfold le3
     omega
theorem StP.start (ok : Nat → Bool) (num : Nat → Nat) (r : Nat) : StP ok num r 0 0 0 0 0 false :=
 .inl ⟨rfl, rfl, rfl, rfl, fun j hj => by have := hj.1; unfold Seen at this; omega⟩
theorem StP.bd {ok : Nat → Bool} {num : Nat → Nat} {r f m : Nat} {x y n : Int} {found : Bool} (h : StP ok num r f m x y n found) (hr : r ≤ 40) : (-40 ≤ x ∧ x ≤ 40) ∧ (-40 ≤ y ∧ y ≤ 40) := by
 rcases h with ⟨_, rfl, rfl, _⟩ | ⟨_, b, hb, rfl, rfl, _⟩
 · omega
 · have hK := hb.1.1.1
   have h1 : b % (2 * r + 1) < 2 * r + 1 := Nat.mod_lt _ (by omega)
   have h2 : b / (2 * r + 1) < 2 * r + 1 := Nat.div_lt_of_lt_mul hK
   unfold dxOf dyOf
   generalize b % (2 * r + 1) = p at h1 ⊢
   generalize b / (2 * r + 1) = q at h2 ⊢
   omega
/-- Both searches find the same, if any place counts. -/
theorem StO.same {ok : Nat → Bool} {num : Nat → Nat} {r : Nat} {x y n x' y' n' : Int} {found : Bool} (h : StO ok num r ((2 * r + 1) * (2 * r + 1)) x y n) (k : StP ok num r (2 * r + 1) 0 x' y' n' found) (hex : ∃ j, j < (2 * r + 1) * (2 * r + 1) ∧ ok j = true) : x = x' ∧ y = y' ∧ n = n' ∧ 0 ≤ n := by
 obtain ⟨j, hj, hk⟩ := hex
 rcases h with ⟨h, _⟩ | ⟨b, ⟨hb, hb2, hb3⟩, rfl, rfl, rfl⟩
 · rw [h j hj] at hk; cases hk
 · rcases k with ⟨-, -, -, -, k⟩ | ⟨-, c, ⟨⟨hc1, hc2⟩, hc3⟩, rfl, rfl, rfl⟩
   · exact absurd ⟨⟨hj, .inl (farOf_lt r j hj)⟩, hk⟩ (k j)
   · have e : b = c := le3.anti (hb3 c hc1.1 hc2) (hc3 b ⟨⟨hb, .inl (farOf_lt r b hb)⟩, hb2⟩)
     subst e
     exact ⟨rfl, rfl, rfl, by omega⟩
end Go.Proofs.YthobmednnocklaaGreatDoor


/-! A region whose order is open, walked in one order, by a predicate that every operation keeps (all that lay in a world of one's choosing lies as it did). No condition. -/
namespace Go.Proofs.YthobmednnocklaaGreatDoor
open Go.RowKit

section
variable {P : Program} {ops : Array Oper} {Q : Exit → Act → World → Prop} {md : Region.Mode} {S : World → Prop}

/-- In one order: 'true': what yields in every world that S holds of; 'false': whatever else. -/
def FlowS (P : Program) (ops : Array Oper) (Q : Exit → Act → World → Prop) (S : World → Prop) : List (Bool × Nat) → Act → World → Prop
 | [], a, w => Q .normal a w
 | (true, i) :: σ, a, w => ∃ o v, ops[i]? = some o ∧ YieldsIf P ops S o v a ∧ FlowS P ops Q S σ (a.put o.dst v) w
 | (false, i) :: σ, a, w => wpOp P ops Q i (fun a' w' => S w' ∧ FlowS P ops Q S σ a' w') a w

section
variable {l : List Oper} {B : World}
theorem FlowS.calm {i : Nat} {o : Oper} {σ : List (Bool × Nat)} {a : Act} {w : World} (v : Value) (ho : l[i]? = some o) (hg : o.guard = none)
 (hr : ∀ w', S w' → (execOp a.eval o).run P w' = .ok (.value v) w') (h : FlowS P l.toArray Q S σ (a.put o.dst v) w) : FlowS P l.toArray Q S ((true, i) :: σ) a w :=
 ⟨o, v, by simpa using ho, .inl ⟨by simp [Region.wanted, hg], hr⟩, h⟩
theorem FlowS.calm2 {i : Nat} {o : Oper} {σ : List (Bool × Nat)} {a : Act} {w : World} (v : Value) (a' : Act) (ho : l[i]? = some o) (hg : o.guard = none)
 (hr : ∀ w', S w' → ∀ K : Result Next → Prop, K (.ok (.value v) w') → K ((execOp a.eval o).run P w')) (ha : ∀ K : Act → Prop, K a' → K (a.put o.dst v))
 (h : FlowS P l.toArray Q S σ a' w) : FlowS P l.toArray Q S ((true, i) :: σ) a w :=
 FlowS.calm v ho hg (fun w' hb => hr w' hb (fun r => r = .ok (.value v) w') rfl) (ha (fun x => FlowS P l.toArray Q S σ x w) h)
theorem FlowS.mv {i : Nat} {d : Option Tmp} {x : Operand} {ty : TypeId} {ps : String} {af : Array Edge} {σ : List (Bool × Nat)} {a : Act} {w : World} (a' : Act) (ho : l[i]? = some ⟨d, .move x, ty, ps, af, none⟩)
 (ha : ∀ K : Act → Prop, K a' → K (a.put d (a.eval x))) (h : FlowS P l.toArray Q S σ a' w) : FlowS P l.toArray Q S ((true, i) :: σ) a w :=
 FlowS.calm (a.eval x) ho rfl (fun w' _ => by simp [execOp]) (ha (fun x => FlowS P l.toArray Q S σ x w) h)
theorem FlowS.asg {i : Nat} {d : Option Tmp} {x : Operand} {ty : TypeId} {ps : String} {af : Array Edge} {σ : List (Bool × Nat)} {a : Act} {w : World} (a' : Act) (ho : l[i]? = some ⟨d, .assign x, ty, ps, af, none⟩)
 (ha : ∀ K : Act → Prop, K a' → K (a.put d (a.eval x))) (h : FlowS P l.toArray Q S σ a' w) : FlowS P l.toArray Q S ((true, i) :: σ) a w :=
 FlowS.calm (a.eval x) ho rfl (fun w' _ => by simp [execOp]) (ha (fun x => FlowS P l.toArray Q S σ x w) h)
theorem FlowS.calmG {i : Nat} {o : Oper} {σ : List (Bool × Nat)} {a : Act} {w : World} (v : Value) (ho : l[i]? = some o) (hg : Region.wanted o (yielded l.toArray a.tmps) = true)
 (hr : ∀ w', S w' → (execOp a.eval o).run P w' = .ok (.value v) w') (h : FlowS P l.toArray Q S σ (a.put o.dst v) w) : FlowS P l.toArray Q S ((true, i) :: σ) a w :=
 ⟨o, v, by simpa using ho, .inl ⟨hg, hr⟩, h⟩
theorem FlowS.pass {i : Nat} {o : Oper} {σ : List (Bool × Nat)} {a : Act} {w : World} (ho : l[i]? = some o) (hg : Region.wanted o (yielded l.toArray a.tmps) = false)
 (h : FlowS P l.toArray Q S σ (a.put o.dst undef) w) : FlowS P l.toArray Q S ((true, i) :: σ) a w :=
 ⟨o, undef, by simpa using ho, .inr ⟨hg, rfl⟩, h⟩
theorem FlowS.move {i : Nat} {o : Oper} {σ : List (Bool × Nat)} {a : Act} {w : World} (ho : l[i]? = some o)
 (h : wpList P l.toArray (Exit.then (fun a' w' => S w' ∧ FlowS P l.toArray Q S σ a' w') Q) [o] a w) : FlowS P l.toArray Q S ((false, i) :: σ) a w := by
 have ho' : l.toArray[i]? = some o := by simpa using ho
 simp only [FlowS, wpOp, ho']
 simp only [wpList] at h
 exact h
theorem FlowS.done {a : Act} {w : World} (h : Q .normal a w) : FlowS P ops (NoPanic Q) S [] a w := h
end
end

end Go.Proofs.YthobmednnocklaaGreatDoor


/-! Texts of letters; searches through letters; slices.Contains of ints. -/
namespace Go.Proofs.YthobmednnocklaaGreatDoor
open Go.RowKit

def okC (b : UInt8) : Prop := 33 ≤ (b.toNat : Int) ∧ (b.toNat : Int) ≤ 126
theorem textB_stop {l : List UInt8} {k : Nat} {b : UInt8} (h : l[k]? = some b) (hn : ¬ okC b) : textB l = false := by
 unfold textB
 rw [decide_eq_false (fun h2 => hn (by have := h2 b (List.mem_of_getElem? h); unfold okC; omega))]
 rfl
theorem textB_end {l : List UInt8} (h : ∀ (j : Nat) b, j < l.length → l[j]? = some b → okC b) : textB l = inB (l.length : Int) 1 4 := by
 unfold textB
 have e : (∀ b ∈ l, 33 ≤ b.toNat ∧ b.toNat ≤ 126) := fun b hb => by
  obtain ⟨j, hj⟩ := List.getElem?_of_mem hb
  have h2 := h j b (List.getElem?_eq_some_iff.1 hj).1 hj
  unfold okC at h2
  omega
 rw [decide_eq_true e, Bool.true_and, Bool.eq_iff_iff, inB_true, decide_eq_true_eq]
 omega
/-- Are all bytes from 33 to 126? -/
def printB (l : List UInt8) : Bool := decide (∀ b ∈ l, 33 ≤ b.toNat ∧ b.toNat ≤ 126)
theorem printB_stop {l : List UInt8} {k : Nat} {b : UInt8} (h : l[k]? = some b) (hn : ¬ okC b) : printB l = false :=
 decide_eq_false (fun h2 => hn (by have := h2 b (List.mem_of_getElem? h); unfold okC; omega))
theorem printB_end {l : List UInt8} (h : ∀ (j : Nat) b, j < l.length → l[j]? = some b → okC b) : printB l = true :=
 decide_eq_true fun b hb => by
  obtain ⟨j, hj⟩ := List.getElem?_of_mem hb
  have h2 := h j b (List.getElem?_eq_some_iff.1 hj).1 hj
  unfold okC at h2
  omega

set_option maxRecDepth 100000 in
set_option maxHeartbeats 1000000 in
theorem letterText_any (l : List UInt8) (w : World) (hs : l.length ≤ 9223372036854775807) :
 Calls Tryz.prog 37 #[.string ⟨l.toArray⟩] w fun e w' => e = .returned (.bool (textB l)) ∧ w = w' := by
 have hsz : (⟨l.toArray⟩ : ByteArray).size = l.length := Lib.size_mk l
 go_enter Tryz.func37, Tryz.ntmps37
 go_wp2_with fail
 go_loop [6] (fun u => ∃ k : Nat, k ≤ l.length ∧ u = .int .i64 k ∧ ∀ (j : Nat) b, j < k → l[j]? = some b → okC b) (fun u => l.length - (RowKit.intOf u).toNat)
 case atStart => exact ⟨0, Nat.zero_le _, rfl, fun j b hj => absurd hj (Nat.not_lt_zero _)⟩
 case round =>
  obtain ⟨k, hk, rfl, hc⟩ := hrel
  have HC := Lib.hid hc
  clear hc
  by_cases hlt : k < l.length
  · have hih : k < (⟨l.toArray⟩ : ByteArray).size := by rw [hsz]; exact hlt
    have hgi := Lib.getElem_mk l k hih
    obtain ⟨c, hc⟩ : ∃ c, c = (⟨l.toArray⟩ : ByteArray)[k]'hih := ⟨_, rfl⟩
    rw [← hc] at hgi
    have HG := Lib.hid hgi
    have hc' := hc.symm
    clear hc hgi
    by_cases c1 : (c.toNat : Int) < 33
    · have HN := Lib.hid (textB_stop HG.out (show ¬ okC c from fun h => by unfold okC at h; omega))
      go_wp2_with fail
      go_ret
      exact ⟨ret_bool HN.out.symm, rfl⟩
    · by_cases c2 : 126 < (c.toNat : Int)
      · have HN := Lib.hid (textB_stop HG.out (show ¬ okC c from fun h => by unfold okC at h; omega))
        go_wp2_with fail
        go_ret
        exact ⟨ret_bool HN.out.symm, rfl⟩
      · have HO := Lib.hid (show okC c from ⟨by omega, by omega⟩)
        go_wp2_with fail
        exact ⟨⟨k + 1, hlt, by go_num, fun j b hj hb => by
         rcases Nat.lt_succ_iff_lt_or_eq.1 hj with h | rfl
         · exact HC.out j b h hb
         · rw [HG.out] at hb
           obtain rfl := Option.some.inj hb
           exact HO.out⟩, by simp [RowKit.intOf]; omega⟩
  · obtain rfl : k = l.length := by omega
    have HE := Lib.hid (textB_end HC.out)
    go_wp2_with (go_at_call 12; refine (in_any _ _ _ _).mono ?_; rintro e w' ⟨rfl, rfl⟩)
    go_ret
    exact ⟨ret_bool HE.out.symm, rfl⟩

set_option maxRecDepth 100000 in
set_option maxHeartbeats 1000000 in
theorem printable_any (l : List UInt8) (w : World) (hs : l.length ≤ 9223372036854775807) :
 Calls Tryz.prog 240 #[.string ⟨l.toArray⟩] w fun e w' => e = .returned (.bool (printB l)) ∧ w = w' := by
 have hsz : (⟨l.toArray⟩ : ByteArray).size = l.length := Lib.size_mk l
 go_enter Tryz.func240, Tryz.ntmps240
 go_wp2_with fail
 go_loop [6] (fun u => ∃ k : Nat, k ≤ l.length ∧ u = .int .i64 k ∧ ∀ (j : Nat) b, j < k → l[j]? = some b → okC b) (fun u => l.length - (RowKit.intOf u).toNat)
 case atStart => exact ⟨0, Nat.zero_le _, rfl, fun j b hj => absurd hj (Nat.not_lt_zero _)⟩
 case round =>
  obtain ⟨k, hk, rfl, hc⟩ := hrel
  have HC := Lib.hid hc
  clear hc
  by_cases hlt : k < l.length
  · have hih : k < (⟨l.toArray⟩ : ByteArray).size := by rw [hsz]; exact hlt
    have hgi := Lib.getElem_mk l k hih
    obtain ⟨c, hc⟩ : ∃ c, c = (⟨l.toArray⟩ : ByteArray)[k]'hih := ⟨_, rfl⟩
    rw [← hc] at hgi
    have HG := Lib.hid hgi
    have hc' := hc.symm
    clear hc hgi
    by_cases c1 : (c.toNat : Int) < 33
    · have HN := Lib.hid (printB_stop HG.out (show ¬ okC c from fun h => by unfold okC at h; omega))
      go_wp2_with fail
      go_ret
      exact ⟨ret_bool HN.out.symm, rfl⟩
    · by_cases c2 : 126 < (c.toNat : Int)
      · have HN := Lib.hid (printB_stop HG.out (show ¬ okC c from fun h => by unfold okC at h; omega))
        go_wp2_with fail
        go_ret
        exact ⟨ret_bool HN.out.symm, rfl⟩
      · have HO := Lib.hid (show okC c from ⟨by omega, by omega⟩)
        go_wp2_with fail
        exact ⟨⟨k + 1, hlt, by go_num, fun j b hj hb => by
         rcases Nat.lt_succ_iff_lt_or_eq.1 hj with h | rfl
         · exact HC.out j b h hb
         · rw [HG.out] at hb
           obtain rfl := Option.some.inj hb
           exact HO.out⟩, by simp [RowKit.intOf]; omega⟩
  · obtain rfl : k = l.length := by omega
    have HE := Lib.hid (printB_end HC.out)
    go_wp2_with fail
    go_ret
    exact ⟨ret_bool HE.out.symm, rfl⟩

set_option maxRecDepth 100000 in
set_option maxHeartbeats 1000000 in
theorem isText_any (l : List UInt8) (w : World) (hs : l.length ≤ 9223372036854775807) :
 Calls Tryz.prog 157 #[.string ⟨l.toArray⟩] w fun e w' => e = .returned (.bool (textB l)) ∧ w = w' := by
 have hsz : (⟨l.toArray⟩ : ByteArray).size = l.length := Lib.size_mk l
 by_cases c1 : (l.length : Int) < 1
 · have HN := Lib.hid (show textB l = false by unfold textB; rw [decide_eq_false (show ¬ (1 ≤ l.length ∧ l.length ≤ 4) by omega), Bool.and_false])
   go_enter Tryz.func157, Tryz.ntmps157
   go_wp2_with fail
   go_ret
   exact ⟨ret_bool HN.out.symm, rfl⟩
 · by_cases c2 : 4 < (l.length : Int)
   · have HN := Lib.hid (show textB l = false by unfold textB; rw [decide_eq_false (show ¬ (1 ≤ l.length ∧ l.length ≤ 4) by omega), Bool.and_false])
     go_enter Tryz.func157, Tryz.ntmps157
     go_wp2_with fail
     go_ret
     exact ⟨ret_bool HN.out.symm, rfl⟩
   · have HN := Lib.hid (show textB l = printB l by unfold textB printB; rw [decide_eq_true (show 1 ≤ l.length ∧ l.length ≤ 4 by omega), Bool.and_true])
     go_enter Tryz.func157, Tryz.ntmps157
     go_wp2_with fail
     refine (printable_any l _ hs).mono ?_
     rintro e w' ⟨rfl, rfl⟩
     go_wp2_with fail
     go_ret
     exact ⟨ret_bool HN.out.symm, rfl⟩

/-! ### searches through letters -/
def Ltr.val (l : Ltr) : Value := .agg #[.string ⟨l.text.toArray⟩, .int .i64 l.W, .int .i64 l.H, .slice l.A l.m l.c]
/-- A function value that tests letters. -/
def Tests (P : Program) (k : FuncId) (cap : Array Value) (w : World) (ls : List Ltr) (p : Ltr → Bool) : Prop :=
 (∀ args w, (callFunc k args).run P w = .ok (.enter k args) w) ∧ ∀ wx l, Bl w wx → l ∈ ls → Calls P k (#[l.val] ++ cap) wx fun e w' => e = .returned (.bool (p l)) ∧ Bl wx w'
theorem Tests.bl {P : Program} {k : FuncId} {cap : Array Value} {w w' : World} {ls : List Ltr} {p : Ltr → Bool} (h : Tests P k cap w ls p) (hb : Bl w w') : Tests P k cap w' ls p := ⟨h.1, fun wx l hx hl => h.2 wx l (hb.trans hx) hl⟩
/-- The first letter that is met. -/
def FirstIs (ls : List Ltr) (p : Ltr → Bool) (i : Int) : Prop :=
 (i = -1 ∧ ∀ l ∈ ls, p l = false) ∨ ∃ (j : Nat) (l : Ltr), i = (j : Int) ∧ ls[j]? = some l ∧ p l = true ∧ ∀ j' l', j' < j → ls[j']? = some l' → p l' = false
theorem FirstIs.some_iff {ls : List Ltr} {p : Ltr → Bool} {i : Int} (h : FirstIs ls p i) : 0 ≤ i ↔ ∃ l ∈ ls, p l = true := by
 rcases h with ⟨rfl, h⟩ | ⟨j, l, rfl, hl, hp, _⟩
 · constructor
   · intro h2; omega
   · rintro ⟨l, hl, hp⟩; rw [h l hl] at hp; cases hp
 · exact ⟨fun _ => ⟨l, List.mem_of_getElem? hl, hp⟩, fun _ => Int.natCast_nonneg j⟩

set_option maxRecDepth 100000 in
set_option maxHeartbeats 1000000 in
theorem ltrIndex_any (L : Option Addr) (c : Nat) (ls : List Ltr) (k : FuncId) (cap : Array Value) (p : Ltr → Bool) (w : World) (hL : LtrsAt w L ls) (hk : Tests Tryz.prog k cap w ls p) (hn : ls.length ≤ 9223372036854775807) :
 Calls Tryz.prog 88 #[.slice L ls.length c, .func (.func k) #[] cap] w fun e w' => ∃ i : Int, e = .returned (.int .i64 i) ∧ FirstIs ls p i ∧ Bl w w' := by
 have hent := hk.1
 have HL := Lib.hid hL; have HK := Lib.hid hk
 clear hL hk
 go_enter Tryz.func88, Tryz.ntmps88
 go_wp2_with fail
 go_loopw [8] (fun u wr => ∃ i : Nat, i ≤ ls.length ∧ u = .int .i64 i ∧ Bl w wr ∧ ∀ j l, j < i → ls[j]? = some l → p l = false) (fun u _ => ls.length - (RowKit.intOf u).toNat)
 case atStart => exact ⟨0, Nat.zero_le _, rfl, Bl.refl _, fun j l hj => absurd hj (Nat.not_lt_zero _)⟩
 case round =>
  obtain ⟨i, hi, rfl, hbr, hno⟩ := hrel
  have HNo := Lib.hid hno
  clear hno
  by_cases hlt : i < ls.length
  · have hg : ls[i]? = some ls[i] := List.getElem?_eq_getElem hlt
    obtain ⟨l, hl⟩ : ∃ l, l = ls[i] := ⟨_, rfl⟩
    rw [← hl] at hg
    obtain ⟨ad, rfl, k1, k2, k3, k4⟩ := (HL.out.bl hbr).at_ hg
    have hcall := HK.out.2 wr l hbr (List.mem_of_getElem? hg)
    have Hcall := Lib.hid hcall; have HG := Lib.hid hg; have HBr := Lib.hid hbr
    clear hcall hg hl hbr
    go_wp2_with fail
    refine Hcall.out.mono ?_
    rintro e w1 ⟨rfl, hb1⟩
    have HB1 := Lib.hid (HBr.out.trans hb1)
    clear hb1
    cases hp : p l
    · have HP := Lib.hid hp
      clear hp
      go_wp2_with fail
      exact ⟨⟨i + 1, hlt, by go_num, HB1.out, fun j l' hj hl' => by
       rcases Nat.lt_succ_iff_lt_or_eq.1 hj with h | rfl
       · exact HNo.out j l' h hl'
       · rw [HG.out] at hl'
         obtain rfl := Option.some.inj hl'
         exact HP.out⟩, by simp [RowKit.intOf]; omega⟩
    · have HP := Lib.hid hp
      clear hp
      go_wp2_with fail
      go_ret
      exact ⟨_, rfl, Or.inr ⟨i, l, rfl, HG.out, HP.out, fun j' l' hj hl' => HNo.out j' l' hj hl'⟩, HB1.out⟩
  · obtain rfl : i = ls.length := by omega
    go_wp2_with fail
    go_ret
    exact ⟨_, rfl, Or.inl ⟨rfl, fun l hl => by
     obtain ⟨j, hj⟩ := List.getElem?_of_mem hl
     exact HNo.out j l (List.getElem?_eq_some_iff.1 hj).1 hj⟩, hbr⟩
set_option maxHeartbeats 1000000 in
theorem ltrContains_any (L : Option Addr) (c : Nat) (ls : List Ltr) (k : FuncId) (cap : Array Value) (p : Ltr → Bool) (w : World) (hL : LtrsAt w L ls) (hk : Tests Tryz.prog k cap w ls p) (hn : ls.length ≤ 9223372036854775807) :
 Calls Tryz.prog 38 #[.slice L ls.length c, .func (.func k) #[] cap] w fun e w' => e = .returned (.bool (decide (∃ l ∈ ls, p l = true))) ∧ Bl w w' := by
 have Hc := Lib.hid (ltrIndex_any L c ls k cap p w hL hk hn)
 clear hL hk
 go_enter Tryz.func38, Tryz.ntmps38
 go_wp2_with fail
 refine Hc.out.mono ?_
 rintro e w1 ⟨i, rfl, hi, hb⟩
 have Hi := Lib.hid hi.some_iff
 clear hi
 go_wp2_with fail
 go_ret
 exact ⟨ret_bool (decide_eq_decide.2 Hi.out), hb⟩

/-! ### slices.Contains of ints -/
set_option maxHeartbeats 1000000 in
theorem indexI_any (A : Option Addr) (n c : Nat) (xs : List Int) (v : Int) (w : World) (hA : Reads w 1 A n (xs.map (.int .i64))) (hn : n ≤ 1099511627776) :
 Calls Tryz.prog 89 #[.slice A n c, .int .i64 v] w fun e w' => ∃ k : Int, e = .returned (.int .i64 k) ∧ (0 ≤ k ↔ v ∈ xs) ∧ w = w' := by
 have hl : xs.length = n := by have := hA.1; simpa using this
 have HA := Lib.hid hA; have HL := Lib.hid hl
 clear hA hl
 go_enter Tryz.func89, Tryz.ntmps89
 go_wp2_with fail
 go_loopw [8] (fun u wr => ∃ i : Nat, i ≤ n ∧ u = .int .i64 i ∧ w = wr ∧ ∀ j, j < i → xs[j]? ≠ some v) (fun u _ => n - (RowKit.intOf u).toNat)
 case atStart => exact ⟨0, Nat.zero_le _, rfl, rfl, fun j hj => absurd hj (Nat.not_lt_zero _)⟩
 case round =>
  obtain ⟨i, hi, rfl, rfl, hno⟩ := hrel
  have Hno := Lib.hid hno
  clear hno
  by_cases hlt : i < n
  · obtain ⟨ad, u, rfl, hu, hc⟩ := HA.out.at_ hlt
    have hl2 : i < xs.length := by rw [HL.out]; exact hlt
    have hu' : u = .int .i64 xs[i] := by simpa [hl2] using hu.symm
    have hg : xs[i]? = some xs[i] := List.getElem?_eq_getElem hl2
    subst hu'
    obtain ⟨b, hb⟩ : ∃ b, b = xs[i] := ⟨_, rfl⟩
    rw [← hb] at hc hg
    have Hg := Lib.hid hg
    clear hu hb hg hl2
    by_cases hbv : v = b
    · have hq : (v == b) = true := by simp [hbv]
      have HX := Lib.hid (show 0 ≤ (i : Int) ↔ v ∈ xs from ⟨fun _ => by rw [hbv]; exact List.mem_of_getElem? Hg.out, fun _ => Int.natCast_nonneg i⟩)
      clear hbv
      go_wp2_with fail
      go_ret
      exact ⟨_, rfl, HX.out, rfl⟩
    · have hq : (v == b) = false := by simp [hbv]
      have HY : Hid (∀ j, j < i + 1 → xs[j]? ≠ some v) := fun j hj => by
       rcases Nat.lt_succ_iff_lt_or_eq.1 hj with h | rfl
       · exact Hno.out j h
       · rw [Hg.out]; intro e; exact hbv (Option.some.inj e).symm
      clear hbv
      go_wp2_with fail
      exact ⟨⟨i + 1, hlt, by go_num, by first | rfl | trivial, HY.out⟩, by simp [RowKit.intOf]; omega⟩
  · have HX := Lib.hid (show (0 : Int) ≤ -1 ↔ v ∈ xs from ⟨fun h => absurd h (by decide), fun h => by
     obtain ⟨j, hj⟩ := List.getElem?_of_mem h
     have := (List.getElem?_eq_some_iff.1 hj).1
     exact absurd hj (Hno.out j (by have := HL.out; omega))⟩)
    go_wp2_with fail
    go_ret
    exact ⟨_, rfl, HX.out, rfl⟩
set_option maxHeartbeats 1000000 in
theorem containsI_any (A : Option Addr) (n c : Nat) (xs : List Int) (v : Int) (w : World) (hA : Reads w 1 A n (xs.map (.int .i64))) (hn : n ≤ 1099511627776) :
 Calls Tryz.prog 40 #[.slice A n c, .int .i64 v] w fun e w' => e = .returned (.bool (decide (v ∈ xs))) ∧ w = w' := by
 go_enter Tryz.func40, Tryz.ntmps40
 go_wp2_with fail
 refine (indexI_any A n c xs v w hA hn).mono ?_
 rintro e w1 ⟨k, rfl, hk, rfl⟩
 have Hk := Lib.hid hk
 clear hk hA
 go_wp2_with fail
 go_ret
 exact ⟨ret_bool (decide_eq_decide.2 Hk.out), rfl⟩

end Go.Proofs.YthobmednnocklaaGreatDoor


/-! The plain law of spelling: of the letters that a text begins with the longest one, the first of them; a space by itself. -/
namespace Go.Proofs.YthobmednnocklaaGreatDoor
open Go.RowKit

def txtOf (ls : List Ltr) (k : Nat) : List UInt8 := (ls[k]?.map Ltr.text).getD []
theorem txtOf_at {ls : List Ltr} {k : Nat} {l : Ltr} (h : ls[k]? = some l) : txtOf ls k = l.text := by unfold txtOf; rw [h]; rfl
/-- No letter is without a text, none begins with a space. -/
def Texts (ls : List Ltr) : Prop := ∀ k, k < ls.length → 1 ≤ (txtOf ls k).length ∧ (txtOf ls k).length ≤ 4 ∧ ∀ b ∈ txtOf ls k, b ≠ 32
/-! ### where the letters come to stand -/
def wdOf (ls : List Ltr) (k : Nat) : Nat := ((ls[k]?.map fun l => l.W.toNat).getD 0)
end Go.Proofs.YthobmednnocklaaGreatDoor


/-! The plain law of a text that is set: where ink is. -/
namespace Go.Proofs.YthobmednnocklaaGreatDoor
open Go.RowKit

theorem wdOf_at {ls : List Ltr} {k : Nat} {l : Ltr} (h : ls[k]? = some l) : wdOf ls k = l.W.toNat := by unfold wdOf; rw [h]; rfl
end Go.Proofs.YthobmednnocklaaGreatDoor
