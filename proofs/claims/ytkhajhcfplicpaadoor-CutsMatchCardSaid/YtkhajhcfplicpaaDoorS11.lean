/- A box by value is opened. No condition. -/
import Derived.Test.YtkhajhcfplicpaaDoorS10

namespace Go.Proofs.YtkhajhcfplicpaaDoor
open Go.ChangeShapes Go.WideShapes Go.ChangeAt Go.RowKit Go.Joins

section
variable {H : Type} {enc : TypeId × Value → H} {w : World} {base b0 : Nat} {spare : Nat → Bool} {held : Bool} {r : Reach}
set_option maxRecDepth 100000 in
theorem open_box {v : Value} {d : DataW H} {p : List MemPlace} (hv : Value.okWide Tryd.prog w r b0 29 v) (h : DataW.Trod enc Tryd.prog w base spare held 29 v d p) :
    ∃ (X Y W Ht : Int), v = .agg #[.int .i64 X, .int .i64 Y, .int .i64 W, .int .i64 Ht] ∧ (-9223372036854775808 ≤ X ∧ X ≤ 9223372036854775807) ∧ (-9223372036854775808 ≤ Y ∧ Y ≤ 9223372036854775807) ∧
      (-9223372036854775808 ≤ W ∧ W ≤ 9223372036854775807) ∧ (-9223372036854775808 ≤ Ht ∧ Ht ≤ 9223372036854775807) := by
  obtain ⟨v0, v1, v2, v3, y0, y1, y2, y3, k, rfl, _, _, h0, h1, h2, h3⟩ := open_agg4 Tryd.underlying29 (by kernel_rfl) (by kernel_rfl) hv h
  obtain ⟨X, e0, _, w0⟩ := DataW.trod_int Tryd.underlying3 h0
  obtain ⟨Y, e1, _, w1⟩ := DataW.trod_int Tryd.underlying3 h1
  obtain ⟨W, e2, _, w2⟩ := DataW.trod_int Tryd.underlying3 h2
  obtain ⟨Ht, e3, _, w3⟩ := DataW.trod_int Tryd.underlying3 h3
  simp at e0 e1 e2 e3
  subst e0 e1 e2 e3
  exact ⟨X, Y, W, Ht, rfl, i64_of_wf w0, i64_of_wf w1, i64_of_wf w2, i64_of_wf w3⟩
end

end Go.Proofs.YtkhajhcfplicpaaDoor
