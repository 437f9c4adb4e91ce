/- slices.Equal of numbers; blank pages; 'pages'. -/
import Derived.Test.YtecfjdladcmhjaaSums
namespace Go.Proofs.Ytecfjdladcmhjaa
open Go.RowKit

theorem eq_of_takes (xs ys : List Int) (hl : xs.length = ys.length) (h : ∀ j, j < xs.length → xs[j]? = ys[j]?) : xs = ys := by
  apply List.ext_getElem? 
  intro i
  rcases Nat.lt_or_ge i xs.length with hi | hi
  · exact h i hi
  · rw [List.getElem?_eq_none hi, List.getElem?_eq_none (by omega)]

/-! ### blank pages -/
set_option maxRecDepth 100000 in
set_option maxHeartbeats 400000 in
theorem blank_ok (W H : Nat) (w : World) (hs : sizeErr W H = 0) :
    Calls Try.prog 32 #[.int .i64 W, .int .i64 H] w fun e w' =>
      ∃ g, e = .returned (.tuple #[.agg #[.int .i64 W, .int .i64 H, .slice (some ⟨g, 0, none⟩) (W * H) (W * H)], .int .i64 0]) ∧ Blk w' g 4 (Array.replicate (W * H) (.bool false)) ∧ Bl w w' := by
  have hz' := sizeErr_zero hs
  have hWH : (W : Int) * (H : Int) = ((W * H : Nat) : Int) := by simp
  have h1 : (0:Int) ≤ (W:Int) * (H:Int) := by omega
  have h2 : (W:Int) * (H:Int) ≤ 1048576 := by omega
  have hN : W * H ≤ 1048576 := by omega
  have hmk := run_make_row' (P := Try.prog) 25 4 (.bool false) 1 Try.underlying25 info_bool rfl .i64 .i64 (W * H) (by omega) (by omega)
  rw [← hWH] at hmk
  have hq : (sizeErr W H != 0) = false := by simp [hs]
  have HS := Lib.hid hs; have HWH := Lib.hid hWH
  clear hs hWH
  go_enter Try.func32, Try.ntmps32
  go_wp2_with (go_at_call 41; refine (checkSize_any _ _ _).mono ?_; rintro e w1 ⟨rfl, rfl⟩)
  have hm : madeCells #[.bool false] (W * H) = Array.replicate (W * H) (.bool false) := by
    apply Array.ext_getElem?
    intro i
    rcases Nat.lt_or_ge i (W * H) with h | h
    · simp [madeCells, h, Nat.mod_one]
    · rw [Array.getElem?_eq_none (by rw [size_madeCells]; exact h), Array.getElem?_eq_none (by simpa using h)]
  rw [hm]
  refine bodyPost_ret (v := .tuple #[.agg #[.int .i64 W, .int .i64 H, .slice (some ⟨w.heap.size + 1, 0, none⟩) (W * H) (W * H)], .int .i64 0]) (by simp [results, Try.results32, go_sem]) rfl ⟨_, rfl, ?_, ?_⟩
  · have hb := Blk.new (w.alloc (.cells #[.int .i64 W, .int .i64 H, .slice (some ⟨w.heap.size + 1, 0, none⟩) (W * H) (W * H)] 27)) 4 (Array.replicate (W * H) (.bool false))
    simpa using hb
  · repeat' (first | exact Bl.refl _ | refine Bl.drew ?_ | refine Bl.setCell ?_ (by simp) _ | refine Bl.alloc ?_ _)

set_option maxRecDepth 100000 in
set_option maxHeartbeats 400000 in
theorem blank_bad (W H : Int) (w : World) (hs : sizeErr W H ≠ 0) :
    Calls Try.prog 32 #[.int .i64 W, .int .i64 H] w fun e w' =>
      e = .returned (.tuple #[.agg #[.int .i64 0, .int .i64 0, .slice none 0 0], .int .i64 (sizeErr W H)]) ∧ Bl w w' := by
  have hq : (sizeErr W H != 0) = true := by simp [hs]
  clear hs
  go_enter Try.func32, Try.ntmps32
  go_wp2_with (go_at_call 41; refine (checkSize_any _ _ _).mono ?_; rintro e w1 ⟨rfl, rfl⟩)
  refine bodyPost_ret (v := .tuple #[.agg #[.int .i64 0, .int .i64 0, .slice none 0 0], .int .i64 (sizeErr W H)]) (by simp [results, Try.results32, go_sem]) rfl ⟨rfl, ?_⟩
  repeat' (first | exact Bl.refl _ | refine Bl.drew ?_ | refine Bl.setCell ?_ (by simp) _ | refine Bl.alloc ?_ _)

end Go.Proofs.Ytecfjdladcmhjaa
