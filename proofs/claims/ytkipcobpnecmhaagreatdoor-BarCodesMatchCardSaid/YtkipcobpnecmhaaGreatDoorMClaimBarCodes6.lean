/- glyph.Pieces. -/
import Derived.Test.YtkipcobpnecmhaaGreatDoorMClaimBarCodes1
import Derived.Test.YtkipcobpnecmhaaGreatDoorMClaimBarCodes2
import Derived.Test.YtkipcobpnecmhaaGreatDoorMClaimBarCodes3

namespace Go.Proofs.YtkipcobpnecmhaaGreatDoor
open Go.RowKit

theorem own_cell {w : World} {base : Nat} {e : TypeId} {size n g cap : Nat} {xs : List Value} (h : w.ownsRow base e size (.slice (some ⟨g, 0, none⟩) n cap) n xs) {j : Nat} {u : Value} (hj : xs[j]? = some u) : w.cell? ⟨g, j, none⟩ = some u := by
  obtain ⟨A, c, e2, hr⟩ := own_reads h
  injection e2 with e1 _ _
  subst e1
  have hlt : j < xs.length := (List.getElem?_eq_some_iff.1 hj).1
  have hn : 0 < n := by
    rcases Nat.eq_zero_or_pos n with h0 | h0
    · have := hr.1; rw [h0, Nat.zero_mul] at this; omega
    · exact h0
  obtain ⟨ad, e3, hc⟩ := hr.2 hn
  injection e3 with e3
  subst e3
  have := hc j u hj
  rwa [add_flat] at this
end Go.Proofs.YtkipcobpnecmhaaGreatDoor
