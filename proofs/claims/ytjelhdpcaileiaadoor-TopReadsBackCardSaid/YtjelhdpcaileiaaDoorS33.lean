/- What is seen of a line as a list of records. -/
import Derived.Test.YtjelhdpcaileiaaDoorS30
import Derived.Test.YtjelhdpcaileiaaDoorS32

namespace Go.Proofs.YtjelhdpcaileiaaDoor
open Go.RowKit

theorem best_len {cs : List Bool} {W H : Nat} {t0 : List UInt8} (h0 : t0.length ≤ 4) {ls : List Ltr} (h : ∀ l ∈ ls, l.text.length ≤ 4) : (bestOf cs W H t0 ls).1.length ≤ 4 := by
  have key : ∀ (ls : List Ltr) (s : Best), (∀ l ∈ ls, l.text.length ≤ 4) → s.1.length ≤ 4 → (ls.foldl (bestStep cs W H) s).1.length ≤ 4 := by
    intro ls
    induction ls with
    | nil => intro s _ h; exact h
    | cons l ls ih =>
      intro s hl hs
      refine ih (bestStep cs W H s l) (fun x hx => hl x (List.mem_cons_of_mem _ hx)) ?_
      unfold bestStep
      split
      · exact hs
      · split
        · exact hl l (List.mem_cons_self ..)
        · split <;> exact hs
  exact key ls _ h h0
def SnOk (s : Sn) : Prop := s.t.length ≤ 4 ∧ (-1 ≤ s.d ∧ s.d ≤ 32000000) ∧ (-1 ≤ s.e ∧ s.e ≤ 32000000)
theorem seen_sn {cs : List Bool} {bW bH : Nat} {ls : List Ltr} (hW : bW ≤ 4000) (hH : bH ≤ 4000) (hl : ∀ l ∈ ls, (l.W ≤ 64 ∧ l.H ≤ 4000) ∧ l.text.length ≤ 4) (X W H : Nat) (most ht : Int) : ∃ s : Sn, seenCells (bestOf cs bW bH [] ls) X W H most ht = s.cells ∧ SnOk s := by
  have hi := best_inv (cs := cs) (W := bW) (H := bH) [] hW hH (ls := ls) fun l h => (hl l h).1
  have ht := best_len (cs := cs) (W := bW) (H := bH) (t0 := []) (by simp) (ls := ls) fun l h => (hl l h).2
  unfold seenCells
  split
  · exact ⟨⟨[63], X, 0, W, H, -1, -1⟩, rfl, by unfold SnOk; simp⟩
  · refine ⟨⟨_, X, 0, W, H, _, _⟩, rfl, ht, ?_, ?_⟩
    · show -1 ≤ (bestOf cs bW bH [] ls).2.1 ∧ (bestOf cs bW bH [] ls).2.1 ≤ 32000000
      omega
    · show -1 ≤ (bestOf cs bW bH [] ls).2.2 ∧ (bestOf cs bW bH [] ls).2.2 ≤ 32000000
      omega
theorem line_sn {bs : List Bool} {W H : Nat} {ls : List Ltr} {most ht gs : Int} {ps : List Piece} (hH : H ≤ 4000) (hl : ∀ l ∈ ls, (l.W ≤ 64 ∧ l.H ≤ 4000) ∧ l.text.length ≤ 4) (hp : ∀ p ∈ ps, p.2 ≤ 4000) : ∀ i, i ≤ ps.length → ∃ ss : List Sn, lineTo (seeOf bs W H ls most ht) gs H ps i = ss.map Sn.cells ∧ (∀ s ∈ ss, SnOk s) ∧ ss.length ≤ 2 * i
  | 0, _ => ⟨[], rfl, (fun s hs => absurd hs (by simp)), Nat.zero_le _⟩
  | i + 1, hi => by
    obtain ⟨ss, e, hs, hn⟩ := line_sn hH hl hp i (by omega)
    have hm : pieceAt ps i ∈ ps := by
      unfold pieceAt
      rw [List.getD_eq_getElem?_getD, List.getElem?_eq_getElem (by omega)]
      exact List.getElem_mem _
    obtain ⟨s, hse, hso⟩ := seen_sn (cs := grid (pieceAt ps i).2 H (cutF bs W (pieceAt ps i).1 0)) (bW := (pieceAt ps i).2) (bH := H) (hp _ hm) hH hl (pieceAt ps i).1 (pieceAt ps i).2 H most ht
    have hsee : seeOf bs W H ls most ht (pieceAt ps i) = s.cells := hse
    have e2 : lineTo (seeOf bs W H ls most ht) gs H ps (i + 1) = lineTo (seeOf bs W H ls most ht) gs H ps i ++ (if 0 < i ∧ gs ≤ gapAt ps i then [spaceCells (endAt ps (i - 1)) (gapAt ps i) H] else []) ++ [seeOf bs W H ls most ht (pieceAt ps i)] := rfl
    rw [hsee, e] at e2
    by_cases hc : 0 < i ∧ gs ≤ gapAt ps i
    · rw [if_pos hc] at e2
      refine ⟨ss ++ [⟨[32], endAt ps (i - 1), 0, gapAt ps i, H, 0, -1⟩] ++ [s], ?_, ?_, ?_⟩
      · rw [e2, List.map_append, List.map_append]; rfl
      · intro x hx
        rcases List.mem_append.1 hx with hx | hx
        · rcases List.mem_append.1 hx with hx | hx
          · exact hs x hx
          · rw [List.mem_singleton.1 hx]; unfold SnOk; simp
        · rw [List.mem_singleton.1 hx]; exact hso
      · rw [List.length_append, List.length_append]; simp; omega
    · rw [if_neg hc] at e2
      refine ⟨ss ++ [s], ?_, ?_, ?_⟩
      · rw [e2, List.map_append]; simp
      · intro x hx
        rcases List.mem_append.1 hx with hx | hx
        · exact hs x hx
        · rw [List.mem_singleton.1 hx]; exact hso
      · rw [List.length_append]; simp; omega
theorem map_flat (ss : List Sn) : (ss.map Sn.cells).flatten = snCells ss := (List.flatMap_def ..).symm
theorem text_take {ss : List Sn} : textOf (ss.take ss.length) = textOf ss := by rw [List.take_length]

end Go.Proofs.YtjelhdpcaileiaaDoor
