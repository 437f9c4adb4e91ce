/- bedref2.ParsedPage: a page is read out of a text. -/
import Derived.Test.YtjelhdpcaileiaaGreatDoorS13
import Derived.Test.YtjelhdpcaileiaaGreatDoorS0
import Derived.Lib.OthersKept
import Derived.Laws.RangeString

namespace Go.Proofs.YtjelhdpcaileiaaGreatDoor
open Go.RowKit Go.Shelf

theorem own_kind {w : World} {B : Nat} {e : TypeId} {s n : Nat} {v : Value} {xs : List Value} (h : w.ownsRow B e s v n xs) : ∀ g, v.ownBlock = some g → ∃ c fz, w.heap[g]? = some (.cells c e fz) := by
  intro g hg
  rcases h.2 with ⟨rfl, _⟩ | ⟨g', cap, cur, rfl, _, hgg, _⟩
  · simp [Value.ownBlock] at hg
  · simp [Value.ownBlock] at hg
    subst hg
    exact ⟨cur, _, hgg⟩
theorem own_iter {w : World} {B : Nat} {e : TypeId} {s n k : Nat} {v : Value} {xs : List Value} {str : ByteArray} {pos : Nat} (h : w.ownsRow B e s v n xs) (hk : w.heap[k]? = some (.stringIter str pos)) (pos' : Nat) : (w.iterAt k str pos').ownsRow B e s v n xs := by
  refine ⟨h.1, ?_⟩
  rcases h.2 with h2 | ⟨g, cap, cur, hv, hb, hg, rest⟩
  · exact .inl h2
  · have hkg : g ≠ k := by
      intro e1
      rw [e1, hk] at hg
      cases hg
    exact .inr ⟨g, cap, cur, hv, hb, (Lib.iterAt_other w k g str pos' hkg).trans hg, rest⟩
theorem dot_ascii {l : List UInt8} (h : dotL l = true) : ∀ b ∈ l, b.toNat < 128 := by
  intro b hb
  have := of_decide_eq_true h b hb
  rw [List.contains_iff_mem] at this
  simp only [List.mem_cons, List.not_mem_nil, or_false] at this
  rcases this with rfl | rfl <;> decide

end Go.Proofs.YtjelhdpcaileiaaGreatDoor
