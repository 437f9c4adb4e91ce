/- From a statement's row to a walk: slices of bools as arguments. -/
import Derived.Test.YtkhajhcfplicpaaDoorS10

namespace Go.Proofs.YtkhajhcfplicpaaDoor
open Go.ChangeShapes Go.WideShapes Go.ChangeAt Go.RowKit Go.Joins

section
variable {H : Type} {enc : TypeId × Value → H} {P : Program} {w : World} {base b0 : Nat} {spare : Nat → Bool} {held : Bool} {r : Reach}
theorem open_bools {t e : TypeId} {v : Value} {d : DataW H} {p : List MemPlace} (ht : P.underlying t = some (.slice e)) (he : P.underlying e = some .bool) (hc : P.cellsOf e = 1) (hv : Value.okWide P w r b0 t v) (h : DataW.Trod enc P w base spare held t v d p) :
    ∃ (A : Option Addr) (n c : Nat) (bs : List Bool), v = .slice A n c ∧ bs.length = n ∧ Reads w 1 A n (bs.map .bool) ∧ n ≤ maxLen := by
  obtain ⟨A, n, c, rfl⟩ := okWide_slice ht hv
  obtain ⟨fuel, hf⟩ := h
  obtain ⟨bs, h1, h2, h3⟩ := rd_bools ht he hc hf
  exact ⟨A, n, c, bs, rfl, h1, h2, h3⟩
end

end Go.Proofs.YtkhajhcfplicpaaDoor
