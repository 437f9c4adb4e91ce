/- From a statement's row to a walk: a row of ints that reads as data is opened, and how long it is by the data's bulk; a page with its capacity. No condition. -/
import Derived.Test.YtkipcobpnecmhaaGreatDoorMClaimBarCodes21
import Derived.Test.YtkipcobpnecmhaaGreatDoorMClaimBarCodes20
import Derived.SliceStrings

namespace Go.Proofs.YtkipcobpnecmhaaGreatDoor
open Go.WideShapes Go.ChangeAt Go.RowKit Go.Joins

section
variable {H : Type} {enc : TypeId × Value → H} {w : World} {base : Nat} {spare : Nat → Bool} {held : Bool} {r : Reach} {b0 : Nat}
set_option maxRecDepth 100000 in
theorem open_bitsC {v : Value} {d : DataW H} {p : List MemPlace} (hv : Value.okWide Tryz.prog w r b0 28 v) (h : DataW.Trod enc Tryz.prog w base spare held 28 v d p) :
    ∃ (W Ht : Int) (A : Option Addr) (n c : Nat) (bs : List Bool), v = .agg #[.int .i64 W, .int .i64 Ht, .slice A n c] ∧ bs.length = n ∧ Reads w 1 A n (bs.map .bool) ∧ n ≤ c ∧
      (-9223372036854775808 ≤ W ∧ W ≤ 9223372036854775807) ∧ (-9223372036854775808 ≤ Ht ∧ Ht ≤ 9223372036854775807) := by
  obtain ⟨v0, v1, v2, y0, y1, y2, k, rfl, _, _, h0, h1, h2⟩ := open_agg3 Tryz.underlying28 (by kernel_rfl) (by kernel_rfl) hv h
  obtain ⟨W, e0, _, w0⟩ := DataW.trod_int Tryz.underlying3 h0
  obtain ⟨Ht, e1, _, w1⟩ := DataW.trod_int Tryz.underlying3 h1
  obtain ⟨A, n, c, rfl⟩ := slice_of_trod Tryz.underlying26 h2
  simp at e0 e1
  subst e0 e1
  have hc : n ≤ c := by
    rcases rd_cells Tryz.underlying26 h2 with ⟨-, rfl, rfl⟩ | ⟨_, _, -, h, -⟩
    · exact Nat.le_refl _
    · exact h
  obtain ⟨bs, hz, hr, hm⟩ := rd_bools Tryz.underlying26 Tryz.underlying4 (by kernel_rfl) h2
  exact ⟨W, Ht, A, n, c, bs, rfl, hz, hr, hc, i64_of_wf w0, i64_of_wf w1⟩
end

end Go.Proofs.YtkipcobpnecmhaaGreatDoor
