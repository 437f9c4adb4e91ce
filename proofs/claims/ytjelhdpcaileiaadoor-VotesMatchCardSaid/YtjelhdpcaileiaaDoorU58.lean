/- From a statement's row to a walk: codes that read as data are opened. No condition. -/
import Derived.Test.YtjelhdpcaileiaaDoorU27
import Derived.Test.YtjelhdpcaileiaaDoorU7

namespace Go.Proofs.YtjelhdpcaileiaaDoor
open Go.ChangeShapes Go.WideShapes Go.ChangeAt Go.RowKit Go.Joins

section
variable {H : Type} {enc : TypeId × Value → H} {w : World} {base b0 : Nat} {spare : Nat → Bool} {held : Bool} {r : Reach}
theorem cells_code : Tryd.prog.cellsOf 106 = 6 := by kernel_rfl
theorem mod6 (j : Nat) : j = j / 6 * 6 + j % 6 := by omega
set_option maxRecDepth 100000 in
theorem rd_code {fuel : Nat} {cs : List Value} {x : DataW H × List MemPlace} (h : DataW.trod enc Tryd.prog w base spare held fuel 106 cs = some x) : ∃ l : Cd, cs = l.cells ∧ l.t.length ≤ 9223372036854775807 := by
  obtain ⟨xs, n, _, _, hl, hlen, hfs⟩ := DataW.trod_struct Tryd.underlying106 h
  rw [cells_code] at hl
  match xs, hlen, cs, hl with
  | [y0, y1, y2, y3, y4, y5], _, [c0, c1, c2, c3, c4, c5], _ =>
    have h0 := hfs 0 _ rfl
    have h1 := hfs 1 _ rfl
    have h2 := hfs 2 _ rfl
    have h3 := hfs 3 _ rfl
    have h4 := hfs 4 _ rfl
    have h5 := hfs 5 _ rfl
    simp only [List.getElem?_cons_zero, List.getElem?_cons_succ] at h0 h1 h2 h3 h4 h5
    obtain ⟨a, e0, _, _⟩ := DataW.trod_int Tryd.underlying3 h0
    obtain ⟨s, e1, _, w1⟩ := DataW.trod_string Tryd.underlying9 h1
    obtain ⟨b, e2, _, _⟩ := DataW.trod_int Tryd.underlying3 h2
    obtain ⟨c, e3, _, _⟩ := DataW.trod_int Tryd.underlying3 h3
    obtain ⟨d, e4, _, _⟩ := DataW.trod_int Tryd.underlying3 h4
    obtain ⟨e, e5, _, _⟩ := DataW.trod_int Tryd.underlying3 h5
    obtain ⟨t, rfl⟩ := string_mk s
    simp [cells_str, cells_int] at e0 e1 e2 e3 e4 e5
    subst e0 e1 e2 e3 e4 e5
    exact ⟨⟨a, t, b, c, d, e⟩, rfl, by rw [Lib.size_mk] at w1; exact w1⟩
set_option maxRecDepth 100000 in
theorem rd_codes {fuel : Nat} {a0 : Option Addr} {len cap : Nat} {x : DataW H × List MemPlace} (h : DataW.trod enc Tryd.prog w base spare held fuel 100 [.slice a0 len cap] = some x) : ∃ ls : List Cd, ls.length = len ∧ Reads w 6 a0 ls.length (cdCells ls) ∧ (∀ l ∈ ls, l.t.length ≤ 9223372036854775807) ∧ len ≤ 9223372036854775807 ∧ len ≤ cap := by
  rcases rd_cells Tryd.underlying100 h with ⟨rfl, rfl, rfl⟩ | ⟨a, n', rfl, hlc, hcm, hel⟩
  · exact ⟨[], rfl, Reads.none_, by simp, by omega, by omega⟩
  · obtain ⟨ls, hl, hls⟩ := build_list (Q := fun i (l : Cd) => (∀ (j : Nat) u, l.cells[j]? = some u → w.cell? (a.add (i * 6 + j)) = some u) ∧ l.t.length ≤ 9223372036854775807) len (fun i hi => by
      obtain ⟨cs, x', _, hc, ht⟩ := hel i hi
      obtain ⟨l, rfl, hx⟩ := rd_code ht
      rw [cells_code] at hc
      exact ⟨l, hc, hx⟩)
    refine ⟨ls, hl, ⟨cdCells_len ls, fun _ => ⟨a, rfl, fun j u hj => ?_⟩⟩, fun l hp => ?_, by unfold maxLen at hcm; omega, hlc⟩
    · have hlt : j < ls.length * 6 := by rw [← cdCells_len]; exact (List.getElem?_eq_some_iff.1 hj).1
      have hi : j / 6 < ls.length := by omega
      have hg : ls[j / 6]? = some ls[j / 6] := List.getElem?_eq_getElem hi
      rw [mod6 j] at hj ⊢
      rw [cdCells_at hg (j % 6) (Nat.mod_lt _ (by decide))] at hj
      exact (hls _ _ hg).1 _ _ hj
    · obtain ⟨i, hi⟩ := List.getElem?_of_mem hp
      exact (hls i l hi).2
set_option maxRecDepth 100000 in
theorem open_codes {v : Value} {d : DataW H} {p : List MemPlace} (hv : Value.okWide Tryd.prog w r b0 100 v) (h : DataW.Trod enc Tryd.prog w base spare held 100 v d p) :
    ∃ (S : Option Addr) (c : Nat) (ls : List Cd), v = .slice S ls.length c ∧ Reads w 6 S ls.length (cdCells ls) ∧ (∀ l ∈ ls, l.t.length ≤ 9223372036854775807) ∧ ls.length ≤ 9223372036854775807 := by
  obtain ⟨A, n, c, rfl⟩ := okWide_slice Tryd.underlying100 hv
  obtain ⟨fuel, hf⟩ := h
  obtain ⟨ls, rfl, hS, hx, hn, _⟩ := rd_codes hf
  exact ⟨A, c, ls, rfl, hS, hx, hn⟩
end

end Go.Proofs.YtjelhdpcaileiaaDoor
