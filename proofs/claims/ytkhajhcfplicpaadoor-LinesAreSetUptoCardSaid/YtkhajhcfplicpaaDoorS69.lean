/- From a statement's row to a walk: a row of texts that reads as data is opened; how long the texts are by the data's bulk. No condition. -/
import Derived.Test.YtkhajhcfplicpaaDoorS41
import Derived.Test.YtkhajhcfplicpaaDoorS65
import Derived.SliceStrings

namespace Go.Proofs.YtkhajhcfplicpaaDoor
open Go.WideShapes Go.ChangeAt Go.RowKit Go.Joins

section
variable {H : Type} {enc : TypeId × Value → H} {w : World} {base : Nat} {spare : Nat → Bool} {held : Bool} {r : Reach} {b0 : Nat}
theorem bulk_strs (ss : List ByteArray) : ss.length ≤ Rows.uptoBulkAll (Go.ChangeShapes.strs (H := H) ss) ∧ ∀ s ∈ ss, s.size ≤ Rows.uptoBulkAll (Go.ChangeShapes.strs (H := H) ss) := by
  induction ss with
  | nil => exact ⟨Nat.zero_le _, fun s hs => by cases hs⟩
  | cons a ss ih =>
    have e : Rows.uptoBulkAll (Go.ChangeShapes.strs (H := H) (a :: ss)) = (a.data.toList.length + 1) + Rows.uptoBulkAll (Go.ChangeShapes.strs (H := H) ss) := by
      show Rows.uptoBulkAll (DataW.lit (.string a.data.toList) :: Go.ChangeShapes.strs (H := H) ss) = _
      simp only [Rows.uptoBulkAll, Rows.uptoBulk]
    have e2 : a.size = a.data.toList.length := rfl
    rw [e]
    refine ⟨by rw [List.length_cons]; omega, fun s hs => ?_⟩
    rcases List.mem_cons.1 hs with rfl | hs
    · omega
    · have := ih.2 s hs
      omega
set_option maxRecDepth 100000 in
theorem open_strs {v : Value} {d : DataW H} {p : List MemPlace} (hv : Value.okWide Tryd.prog w r b0 93 v) (h : DataW.Trod enc Tryd.prog w base spare held 93 v d p) :
    ∃ (S : Option Addr) (c : Nat) (ts : List (List UInt8)), v = .slice S ts.length c ∧ Reads w 1 S ts.length (strCells' ts) ∧ ts.length ≤ Rows.uptoBulk d ∧ ∀ t ∈ ts, t.length ≤ Rows.uptoBulk d := by
  obtain ⟨A, n, c, rfl⟩ := okWide_slice Tryd.underlying93 hv
  obtain ⟨fuel, hf⟩ := h
  rcases Go.ChangeShapes.open_strings Tryd.underlying93 Tryd.underlying9 (by kernel_rfl) hf with ⟨hcs, -⟩ | ⟨a, len', cap', ss, hcs, _, hl, hm, hz, hx, hcell, hsz⟩
  · simp [Value.cells] at hcs
    obtain ⟨rfl, rfl, rfl⟩ := hcs
    exact ⟨none, 0, [], rfl, Reads.none_, Nat.zero_le _, fun t ht => by cases ht⟩
  · simp [Value.cells] at hcs
    obtain ⟨rfl, rfl, rfl⟩ := hcs
    have hlen : n ≤ ss.length := by rw [hz]; split <;> omega
    have hd : d = .slice (Go.ChangeShapes.strs (ss.take n)) (Go.ChangeShapes.strs (ss.drop n)) := (Prod.mk.inj hx).1
    obtain ⟨b1, b2⟩ := bulk_strs (H := H) (ss.take n)
    have hb : Rows.uptoBulkAll (Go.ChangeShapes.strs (H := H) (ss.take n)) ≤ Rows.uptoBulk d := by
      rw [hd]
      simp only [Rows.uptoBulk]
      omega
    have hlt : (ss.take n).length = n := by rw [List.length_take]; omega
    refine ⟨some a, c, (ss.take n).map (fun s => s.data.toList), by rw [List.length_map, hlt], ⟨by unfold strCells'; rw [List.length_map, Nat.mul_one], fun _ => ⟨a, rfl, fun j u hj => ?_⟩⟩, by rw [List.length_map]; omega, fun t ht => ?_⟩
    · unfold strCells' at hj
      rw [List.getElem?_map, List.getElem?_map] at hj
      obtain ⟨t, ht, rfl⟩ := Option.map_eq_some_iff.1 hj
      obtain ⟨s, hs, rfl⟩ := Option.map_eq_some_iff.1 ht
      have hjn : j < n := by rw [← hlt]; exact (List.getElem?_eq_some_iff.1 hs).1
      rw [List.getElem?_take_of_lt hjn] at hs
      have h1 := hcell j (by omega)
      rw [List.getD_eq_getElem?_getD, hs] at h1
      rw [h1]
      rfl
    · obtain ⟨s, hs, rfl⟩ := List.mem_map.1 ht
      have h1 := b2 s hs
      have e2 : s.size = s.data.toList.length := rfl
      omega
end

end Go.Proofs.YtkhajhcfplicpaaDoor
