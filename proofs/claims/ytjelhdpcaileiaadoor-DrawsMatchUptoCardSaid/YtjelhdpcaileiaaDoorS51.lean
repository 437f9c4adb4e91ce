/- From a statement's row to a walk: a row of ints that reads as data is opened, and how long it is by the data's bulk; a page with its capacity. No condition. -/
import Derived.Test.YtjelhdpcaileiaaDoorS18
import Derived.Test.YtjelhdpcaileiaaDoorS47
import Derived.SliceStrings

namespace Go.Proofs.YtjelhdpcaileiaaDoor
open Go.WideShapes Go.ChangeAt Go.RowKit Go.Joins

section
variable {H : Type} {enc : TypeId × Value → H} {w : World} {base : Nat} {spare : Nat → Bool} {held : Bool} {r : Reach} {b0 : Nat}
theorem bulk_ints (zs : List Int) : zs.length ≤ Rows.uptoBulkAll (Go.ChangeShapes.lits (H := H) .i64 zs) := by
  induction zs with
  | nil => exact Nat.zero_le _
  | cons a zs ih =>
    have e : Rows.uptoBulkAll (Go.ChangeShapes.lits (H := H) .i64 (a :: zs)) = 1 + Rows.uptoBulkAll (Go.ChangeShapes.lits (H := H) .i64 zs) := by
      show Rows.uptoBulkAll (DataW.lit (.int .i64 a) :: Go.ChangeShapes.lits (H := H) .i64 zs) = _
      simp only [Rows.uptoBulkAll, Rows.uptoBulk]
    rw [e, List.length_cons]
    omega
set_option maxRecDepth 100000 in
theorem open_introw {v : Value} {d : DataW H} {p : List MemPlace} (hv : Value.okWide Tryd.prog w r b0 62 v) (h : DataW.Trod enc Tryd.prog w base spare held 62 v d p) :
    ∃ (S : Option Addr) (c : Nat) (zs : List Int), v = .slice S zs.length c ∧ Reads w 1 S zs.length (intCells zs) ∧ zs.length ≤ c ∧ zs.length ≤ Rows.uptoBulk d := by
  obtain ⟨A, n, c, rfl⟩ := okWide_slice Tryd.underlying62 hv
  obtain ⟨fuel, hf⟩ := h
  rcases Go.ChangeShapes.open_ints Tryd.underlying62 Tryd.underlying3 (by kernel_rfl) hf with ⟨hcs, -⟩ | ⟨a, len', cap', zs, hcs, _, hl, hm, hz, hx, hcell, -⟩
  · simp [Value.cells] at hcs
    obtain ⟨rfl, rfl, rfl⟩ := hcs
    exact ⟨none, 0, [], rfl, Reads.none_, Nat.le_refl _, Nat.zero_le _⟩
  · simp [Value.cells] at hcs
    obtain ⟨rfl, rfl, rfl⟩ := hcs
    have hlen : n ≤ zs.length := by rw [hz]; split <;> omega
    have hd : d = .slice (Go.ChangeShapes.lits .i64 (zs.take n)) (Go.ChangeShapes.lits .i64 (zs.drop n)) := (Prod.mk.inj hx).1
    have b1 := bulk_ints (H := H) (zs.take n)
    have hb : Rows.uptoBulkAll (Go.ChangeShapes.lits (H := H) .i64 (zs.take n)) ≤ Rows.uptoBulk d := by
      rw [hd]
      simp only [Rows.uptoBulk]
      omega
    have hlt : (zs.take n).length = n := by rw [List.length_take]; omega
    refine ⟨some a, c, zs.take n, by rw [hlt], ⟨by unfold intCells; rw [List.length_map, Nat.mul_one], fun _ => ⟨a, rfl, fun j u hj => ?_⟩⟩, by omega, by omega⟩
    unfold intCells at hj
    rw [List.getElem?_map] at hj
    obtain ⟨z, hz2, rfl⟩ := Option.map_eq_some_iff.1 hj
    have hjn : j < n := by rw [← hlt]; exact (List.getElem?_eq_some_iff.1 hz2).1
    rw [List.getElem?_take_of_lt hjn] at hz2
    have h1 := hcell j (by omega)
    rw [List.getD_eq_getElem?_getD, hz2] at h1
    exact h1
set_option maxRecDepth 100000 in
theorem open_bitsC {v : Value} {d : DataW H} {p : List MemPlace} (hv : Value.okWide Tryd.prog w r b0 27 v) (h : DataW.Trod enc Tryd.prog w base spare held 27 v d p) :
    ∃ (W Ht : Int) (A : Option Addr) (n c : Nat) (bs : List Bool), v = .agg #[.int .i64 W, .int .i64 Ht, .slice A n c] ∧ bs.length = n ∧ Reads w 1 A n (bs.map .bool) ∧ n ≤ c ∧
      (-9223372036854775808 ≤ W ∧ W ≤ 9223372036854775807) ∧ (-9223372036854775808 ≤ Ht ∧ Ht ≤ 9223372036854775807) := by
  obtain ⟨v0, v1, v2, y0, y1, y2, k, rfl, _, _, h0, h1, h2⟩ := open_agg3 Tryd.underlying27 (by kernel_rfl) (by kernel_rfl) hv h
  obtain ⟨W, e0, _, w0⟩ := DataW.trod_int Tryd.underlying3 h0
  obtain ⟨Ht, e1, _, w1⟩ := DataW.trod_int Tryd.underlying3 h1
  obtain ⟨A, n, c, rfl⟩ := slice_of_trod Tryd.underlying25 h2
  simp at e0 e1
  subst e0 e1
  have hc : n ≤ c := by
    rcases rd_cells Tryd.underlying25 h2 with ⟨-, rfl, rfl⟩ | ⟨_, _, -, h, -⟩
    · exact Nat.le_refl _
    · exact h
  obtain ⟨bs, hz, hr, hm⟩ := rd_bools Tryd.underlying25 Tryd.underlying4 (by kernel_rfl) h2
  exact ⟨W, Ht, A, n, c, bs, rfl, hz, hr, hc, i64_of_wf w0, i64_of_wf w1⟩
end

end Go.Proofs.YtjelhdpcaileiaaDoor
