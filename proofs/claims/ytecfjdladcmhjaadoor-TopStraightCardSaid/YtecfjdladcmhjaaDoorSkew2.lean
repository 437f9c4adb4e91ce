/- spots, profile, Profile, Score, skews. -/
import Derived.Test.YtecfjdladcmhjaaDoorSkew1
import Derived.Test.YtecfjdladcmhjaaDoorMixes
import Derived.Test.YtecfjdladcmhjaaDoorOwn
namespace Go.Proofs.YtecfjdladcmhjaaDoor
open Go.RowKit

theorem info_point : (Tryd.prog.info? 236).map (fun i => (i.zero, i.size, i.bytes)) = some (some (.agg #[.int .i64 0, .int .i64 0]), 2, 16) := by kernel_rfl

def ptCells (W : Nat) : List Nat → List Value
  | [] => []
  | i :: l => .int .i64 ((i % W : Nat) : Int) :: .int .i64 ((i / W : Nat) : Int) :: ptCells W l
theorem ptCells_append (W : Nat) (l k : List Nat) : ptCells W (l ++ k) = ptCells W l ++ ptCells W k := by
  induction l with
  | nil => rfl
  | cons i l ih => simp [ptCells, ih]
theorem ptCells_at (W : Nat) : ∀ (l : List Nat) (j i : Nat), l[j]? = some i → (ptCells W l)[j * 2]? = some (.int .i64 ((i % W : Nat) : Int)) ∧ (ptCells W l)[j * 2 + 1]? = some (.int .i64 ((i / W : Nat) : Int))
  | [], j, i, h => by simp at h
  | a :: l, 0, i, h => by simp at h; subst h; simp [ptCells]
  | a :: l, j + 1, i, h => by
    have := ptCells_at W l j i (by simpa using h)
    rw [Nat.add_mul, Nat.one_mul]
    simpa [ptCells] using this

/-- A slice of places. -/
def PtReads (w : World) (P : Option Addr) (W : Nat) (l : List Nat) : Prop := 0 < l.length → ∃ g, P = some ⟨g, 0, none⟩ ∧ ∀ j i, l[j]? = some i → w.cell? ⟨g, j * 2, none⟩ = some (.int .i64 ((i % W : Nat) : Int)) ∧ w.cell? ⟨g, j * 2 + 1, none⟩ = some (.int .i64 ((i / W : Nat) : Int))
theorem PtReads.bl {w w' : World} {P : Option Addr} {W : Nat} {l : List Nat} (h : PtReads w P W l) (hb : Bl w w') : PtReads w' P W l := fun h0 =>
  let ⟨g, e, hc⟩ := h h0
  ⟨g, e, fun j i hi => ⟨hb.at (hc j i hi).1, hb.at (hc j i hi).2⟩⟩
theorem own_pts {w : World} {base : Nat} {e : TypeId} {v : Value} {W : Nat} {l : List Nat} (h : w.ownsRow base e 2 v l.length (ptCells W l)) : ∃ P c, v = .slice P l.length c ∧ PtReads w P W l := by
  rcases h.2 with ⟨rfl, hn⟩ | ⟨g, cap, cur, rfl, hb, hg, hn, hc, hs, ht⟩
  · have hl : l.length = 0 := by first | exact hn | omega
    exact ⟨none, 0, by rw [hl], fun h0 => absurd h0 (by omega)⟩
  · refine ⟨_, _, rfl, fun _ => ⟨g, rfl, fun j i hi => ?_⟩⟩
    obtain ⟨h1, h2⟩ := ptCells_at W l j i hi
    have hcell := h.cells (g := g) rfl
    have e : ∀ j, (⟨g, 0, none⟩ : Addr).add j = ⟨g, j, none⟩ := fun j => by unfold Addr.add; split <;> simp_all
    exact ⟨by have := hcell _ _ h1; rwa [e] at this, by have := hcell _ _ h2; rwa [e] at this⟩

set_option maxRecDepth 100000 in
set_option maxHeartbeats 2000000 in
theorem spots_any (W H : Nat) (A : Option Addr) (ac : Nat) (bs : List Bool) (w : World) (hA : Reads w 1 A (W * H) (bs.map .bool)) (h1 : 1 ≤ W) (hbd : W * H ≤ 1048576) (hW : W ≤ 4000) (hH : H ≤ 4000) :
    Calls Tryd.prog 206 #[.agg #[.int .i64 W, .int .i64 H, .slice A (W * H) ac]] w fun e w' => ∃ P c, e = .returned (.slice P (spotL bs (W * H)).length c) ∧ PtReads w' P W (spotL bs (W * H)) ∧ Bl w w' := by
  let w2 := (w).alloc (.cells #[.int .i64 W, .int .i64 H, .slice A (W * H) ac] 24)
  have w2b : Bl w w2 := (Bl.refl w).alloc _
  have w21 : Blk w2 (w.heap.size) 24 #[.int .i64 W, .int .i64 H, .slice A (W * H) ac] := by
    have h0 := Blk.new (w) 24 #[.int .i64 W, .int .i64 H, .slice A (W * H) ac]
    exact h0
  have k1 := w21.all3
  have lw2 : w2.heap.size = w.heap.size + 1 := by simp [w2]
  have hA2 := hA.bl w2b
  clear hA
  have ho0 : w2.ownsRow (w.heap.size + 1) 236 2 (.slice none 0 0) (spotL bs 0).length (ptCells W (spotL bs 0)) := World.ownsRow_nil _ _ _ _
  have Ho0 := Lib.hid ho0
  clear ho0
  go_enter Tryd.func206, Tryd.ntmps206
  go_wp2_with fail
  go_loopw [3, 9] (fun v u wr => ∃ i : Nat, i ≤ W * H ∧ u = .int .i64 i ∧ Bl w2 wr ∧ wr.ownsRow (w.heap.size + 1) 236 2 v (spotL bs i).length (ptCells W (spotL bs i))) (fun _ u _ => W * H - (intOf u).toNat)
  case atStart => exact ⟨0, Nat.zero_le _, rfl, Bl.refl _, Ho0.out⟩
  case round =>
    obtain ⟨i, hi, rfl, hbr, hown⟩ := hrel
    clear k1
    have k1 := (w21.bl hbr).all3
    by_cases hlt : i < W * H
    · have hWp : ¬ (W = 0) := by omega
      have il : (i : Int) < (W : Int) * (H : Int) := by have := Int.natCast_mul W H; omega
      obtain ⟨ad, ua, eA, hu, hca⟩ := (hA2.bl hbr).at_ hlt
      have hua : ua = .bool (bs.getD i false) := by
        simp only [List.getElem?_map, Option.map_eq_some_iff] at hu
        obtain ⟨b, hb1, hb2⟩ := hu
        rw [← hb2, List.getD, hb1]; rfl
      clear hu
      subst hua eA
      have hsp : spotL bs (i + 1) = spotL bs i ++ (if bs.getD i false then [i] else []) := rfl
      have hln := spotL_len bs i
      obtain ⟨va, hva⟩ : ∃ v, v = bs.getD i false := ⟨_, rfl⟩
      rw [← hva] at hsp hca
      have mlt : i % W < W := Nat.mod_lt _ (by omega)
      have dlt : i / W < H := Nat.div_lt_of_lt_mul hlt
      obtain ⟨xi, hxi⟩ : ∃ n, n = i % W := ⟨_, rfl⟩
      obtain ⟨yi, hyi⟩ : ∃ n, n = i / W := ⟨_, rfl⟩
      have e1 : (i : Int) % (W : Int) = (xi : Int) := by rw [hxi]; simp
      have e2 : (i : Int) / (W : Int) = (yi : Int) := by rw [hyi]; simp
      have e3 := hxi.symm
      have e4 := hyi.symm
      have hpt : ptCells W [i] = [.int .i64 (xi : Int), .int .i64 (yi : Int)] := by rw [hxi, hyi]; rfl
      rw [← hxi] at mlt
      rw [← hyi] at dlt
      have Hpt := Lib.hid hpt
      clear hxi hyi hpt
      have Hva := Lib.hid hva
      clear hva
      cases va
      · have Hsp := Lib.hid hsp
        clear hsp
        go_wp2_with fail
        exact ⟨⟨i + 1, hlt, by go_num, hbr, by rw [Hsp.out]; simpa using hown⟩, by simp [intOf]; omega⟩
      · have Hsp := Lib.hid hsp
        clear hsp
        go_wp2_with fail
        refine wp_region_flow [(true, 0), (true, 1), (true, 2), (true, 3), (true, 4), (true, 5), (true, 6), (true, 7), (true, 8), (true, 9), (false, 10), (false, 11), (true, 12)] (fun i => i == 11) (by kernel_rfl) (by kernel_rfl) (by kernel_rfl) (by kernel_rfl) ?_
        iterate 2
          apply Flow.mv _ rfl
          · intro K' hK'
            simp only [Act.put, Act.eval, List.setIfInBounds_toArray, List.set_cons_zero, List.set_cons_succ, arr_getD, List.getD_cons_zero, List.getD_cons_succ]
            exact hK'
        iterate 1
          apply Flow.calm2 _ _ rfl rfl
          · intro w' hb' K' hK'
            obtain ⟨hc', hf'⟩ := hb'.rule
            go_simp
            try go_ints
            exact hK'
          · intro K' hK'
            simp only [Act.put, List.setIfInBounds_toArray, List.set_cons_zero, List.set_cons_succ]
            exact hK'
        iterate 1
          apply Flow.calm2 _ _ rfl rfl
          · intro w' hb' K' hK'
            obtain ⟨hc', hf'⟩ := hb'.rule
            go_simp
            try go_ints
            exact hK'
          · intro K' hK'
            simp only [Act.put, List.setIfInBounds_toArray, List.set_cons_zero, List.set_cons_succ]
            exact hK'
        iterate 1
          apply Flow.calm2 _ _ rfl rfl
          · intro w' hb' K' hK'
            obtain ⟨hc', hf'⟩ := hb'.rule
            go_simp
            try go_ints
            exact hK'
          · intro K' hK'
            simp only [Act.put, List.setIfInBounds_toArray, List.set_cons_zero, List.set_cons_succ]
            exact hK'
        iterate 1
          apply Flow.mv _ rfl
          · intro K' hK'
            simp only [Act.put, Act.eval, List.setIfInBounds_toArray, List.set_cons_zero, List.set_cons_succ, arr_getD, List.getD_cons_zero, List.getD_cons_succ]
            exact hK'
        iterate 1
          apply Flow.calm2 _ _ rfl rfl
          · intro w' hb' K' hK'
            obtain ⟨hc', hf'⟩ := hb'.rule
            go_simp
            try go_ints
            exact hK'
          · intro K' hK'
            simp only [Act.put, List.setIfInBounds_toArray, List.set_cons_zero, List.set_cons_succ]
            exact hK'
        iterate 1
          apply Flow.calm2 _ _ rfl rfl
          · intro w' hb' K' hK'
            obtain ⟨hc', hf'⟩ := hb'.rule
            go_simp
            try go_ints
            exact hK'
          · intro K' hK'
            simp only [Act.put, List.setIfInBounds_toArray, List.set_cons_zero, List.set_cons_succ]
            exact hK'
        iterate 1
          apply Flow.calm2 _ _ rfl rfl
          · intro w' hb' K' hK'
            obtain ⟨hc', hf'⟩ := hb'.rule
            go_simp
            try go_ints
            exact hK'
          · intro K' hK'
            simp only [Act.put, List.setIfInBounds_toArray, List.set_cons_zero, List.set_cons_succ]
            exact hK'
        iterate 1
          apply Flow.calm2 _ _ rfl rfl
          · intro w' hb' K' hK'
            obtain ⟨hc', hf'⟩ := hb'.rule
            go_simp
            try go_ints
            exact hK'
          · intro K' hK'
            simp only [Act.put, List.setIfInBounds_toArray, List.set_cons_zero, List.set_cons_succ]
            exact hK'
        apply Flow.move rfl
        go_wp2_with fail
        refine ⟨fun _ => ?_, ?_⟩
        · repeat' (first | exact Bl.refl _ | refine Bl.drewL ?_ | refine Bl.drew ?_ | refine Bl.alloc ?_ _)
        apply Flow.move rfl
        refine wpList_append_bl rfl (.tmp 15) (.tmp 25) 209 rfl 236 (.agg #[.int .i64 0, .int .i64 0]) 2 16 Tryd.underlying209 info_point rfl (by omega) (w.heap.size + 1) u3 (spotL bs i).length (ptCells W (spotL bs i)) rfl (hbr.trans ((Bl.refl _).alloc _).drew) (by omega) (by have := hbr.le; simp; omega) (own_bl hown ((Bl.refl _).alloc _).drew) (some ⟨wr.heap.size, 0, none⟩) 1 1 [.int .i64 (xi : Int), .int .i64 (yi : Int)] rfl ((Blk.new wr _ _).drew.reads 1 2 rfl) (by simp [Value.oneCell']) (by unfold maxLen; omega) (by omega) ?_
        intro v' w4 hown' hbw4 hg4
        go_wp2_with fail
        refine ⟨fun hcl => absurd hcl (by decide), ?_⟩
        iterate 1
          apply Flow.asg _ rfl
          · intro K' hK'
            simp only [Act.put, Act.eval, List.setIfInBounds_toArray, List.set_cons_zero, List.set_cons_succ, arr_getD, List.getD_cons_zero, List.getD_cons_succ]
            exact hK'
        refine Flow.done ?_
        go_wp2_with fail
        exact ⟨⟨i + 1, hlt, by go_num, hbw4, by rw [Hsp.out]; simp only [if_true, List.length_append, ptCells_append, Hpt.out]; exact hown'⟩, by simp [intOf]; omega⟩
    · obtain rfl : i = W * H := by omega
      obtain ⟨P, c, rfl, hp⟩ := own_pts hown
      go_wp2_with fail
      go_ret
      exact ⟨_, _, rfl, hp, w2b.trans hbr⟩

end Go.Proofs.YtecfjdladcmhjaaDoor
