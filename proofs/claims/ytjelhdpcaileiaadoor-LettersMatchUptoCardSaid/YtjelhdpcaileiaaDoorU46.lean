/- bedref2.SetOf. -/
import Derived.Test.YtjelhdpcaileiaaDoorU34
import Derived.Test.YtjelhdpcaileiaaDoorU44
import Derived.Test.YtjelhdpcaileiaaDoorU45

namespace Go.Proofs.YtjelhdpcaileiaaDoor
open Go.RowKit Go.Shelf

theorem ltr_at {w : World} {L : Option Addr} {ls : List Ltr} {k : Nat} (h : LtrsAt w L ls) (hk : k < ls.length) : ∃ ad, L = some ad ∧ w.cell? (ad.add (k * 4)) = some (.string ⟨(txtOf ls k).toArray⟩) ∧ w.cell? ⟨(ad.add (k * 4)).block, (ad.add (k * 4)).off + 1, none⟩ = some (.int .i64 (ls[k]'hk).W) ∧
    w.cell? ⟨(ad.add (k * 4)).block, (ad.add (k * 4)).off + 2, none⟩ = some (.int .i64 (ls[k]'hk).H) ∧ w.cell? ⟨(ad.add (k * 4)).block, (ad.add (k * 4)).off + 3, none⟩ = some (.slice (ls[k]'hk).A (ls[k]'hk).m (ls[k]'hk).c) ∧ Reads w 1 (ls[k]'hk).A (ls[k]'hk).m ((bsOf ls k).map .bool) := by
  have hg : ls[k]? = some ls[k] := List.getElem?_eq_getElem hk
  obtain ⟨ad, e, h1, h2, h3, h4⟩ := h.at_ hg
  exact ⟨ad, e, by rw [txtOf_at hg]; exact h1, h2, h3, h4, by rw [bsOf_at hg]; exact (h.2 _ (List.getElem_mem hk)).1⟩
/-- What is said of a page that is set. -/
def SetRes (W ht : Nat) (cells : List Value) (w : World) (e : Ending) (w' : World) : Prop := ∃ R rc, e = .returned (.agg #[.int .i64 W, .int .i64 ht, .slice R (W * ht) rc]) ∧
      Reads w' 1 R (W * ht) cells ∧ (∀ ad, R = some ad → w.heap.size ≤ ad.block) ∧ Bl w w'
end Go.Proofs.YtjelhdpcaileiaaDoor
