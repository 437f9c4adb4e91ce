/- Margins; bedref2.Moved and CutOf. -/
import Derived.Test.YtjelhdpcaileiaaDoorS2

namespace Go.Proofs.YtjelhdpcaileiaaDoor
open Go.RowKit

/-! ### Bounds -/
set_option maxRecDepth 100000 in
set_option maxHeartbeats 4000000 in
theorem bounds_any (W H : Int) (A : Option Addr) (an ac : Nat) (bs : List Bool) (w : World) (hA : Reads w 1 A an (bs.map .bool)) :
    Calls Tryd.prog 83 #[.agg #[.int .i64 W, .int .i64 H, .slice A an ac]] w fun e w' =>
      ∃ X Y BW BH err, e = .returned (.tuple #[.agg #[.int .i64 X, .int .i64 Y, .int .i64 BW, .int .i64 BH], .int .i64 err]) ∧ (pageErr W H an ≠ 0 → err = pageErr W H an ∧ X = 0 ∧ Y = 0 ∧ BW = 0 ∧ BH = 0) ∧
        (pageErr W H an = 0 → ∃ is, BoundsIs bs W.toNat H.toNat is X Y BW BH ∧ err = whenI (!is) 10) ∧ Bl w w' := by
  let w2 := ((w).alloc (.cells #[.int .i64 W, .int .i64 H, .slice A an ac] 27)).alloc (.cells #[.int .i64 0, .int .i64 0, .int .i64 0, .int .i64 0] 88)
  have w2b : Bl w w2 := ((Bl.refl w).alloc _).alloc _
  have w21 : Blk w2 (w.heap.size) 27 #[.int .i64 W, .int .i64 H, .slice A an ac] := by
    have h0 := Blk.new (w) 27 #[.int .i64 W, .int .i64 H, .slice A an ac]
    exact (h0.alloc _)
  have w22 : Blk w2 (w.heap.size + 1) 88 #[.int .i64 0, .int .i64 0, .int .i64 0, .int .i64 0] := by
    have h0 := Blk.new ((w).alloc (.cells #[.int .i64 W, .int .i64 H, .slice A an ac] 27)) 88 #[.int .i64 0, .int .i64 0, .int .i64 0, .int .i64 0]
    simp only [World.size_alloc] at h0
    exact h0
  have k1 := w21.all3
  by_cases hp : pageErr W H an = 0
  · have Hp := Lib.hid hp
    obtain ⟨W, H, rfl, rfl, rfl, u1, u2, u3⟩ := page_nat hp
    have HA := Lib.hid (hA.bl w2b)
    have St := Lib.hid (BInv.start bs W H)
    clear hA
    go_enter Tryd.func83, Tryd.ntmps83
    go_wp2_with fail
    refine (checkBits_any _ _ _ _ _ _).mono ?_
    rintro e w3 ⟨rfl, hb3⟩
    have k3 := (w21.bl hb3).all3
    clear k1
    go_upto_region 4 with fail
    refine wp_region_flow [(true, 0), (true, 1), (true, 2), (true, 3), (true, 4), (true, 5), (true, 6), (true, 7)] (fun _ => false) (by kernel_rfl) (by kernel_rfl) (by kernel_rfl) (by kernel_rfl) ?_
    iterate 1
      apply Flow.calm2 _ _ rfl rfl
      · intro w' hb' K' hK'
        obtain ⟨hc', hf'⟩ := hb'.rule
        go_simp
        try go_ints
        exact hK'
      · intro K' hK'
        simp only [Act.put, List.setIfInBounds_toArray, List.set_cons_zero, List.set_cons_succ]
        exact hK'
    iterate 1
      apply Flow.calm2 _ _ rfl rfl
      · intro w' hb' K' hK'
        obtain ⟨hc', hf'⟩ := hb'.rule
        go_simp
        try go_ints
        exact hK'
      · intro K' hK'
        simp only [Act.put, List.setIfInBounds_toArray, List.set_cons_zero, List.set_cons_succ]
        exact hK'
    iterate 1
      apply Flow.calm2 _ _ rfl rfl
      · intro w' hb' K' hK'
        obtain ⟨hc', hf'⟩ := hb'.rule
        go_simp
        try go_ints
        exact hK'
      · intro K' hK'
        simp only [Act.put, List.setIfInBounds_toArray, List.set_cons_zero, List.set_cons_succ]
        exact hK'
    iterate 1
      apply Flow.calm2 _ _ rfl rfl
      · intro w' hb' K' hK'
        obtain ⟨hc', hf'⟩ := hb'.rule
        go_simp
        try go_ints
        exact hK'
      · intro K' hK'
        simp only [Act.put, List.setIfInBounds_toArray, List.set_cons_zero, List.set_cons_succ]
        exact hK'
    iterate 4
      apply Flow.asg _ rfl
      · intro K' hK'
        simp only [Act.put, Act.eval, List.setIfInBounds_toArray, List.set_cons_zero, List.set_cons_succ, arr_getD, List.getD_cons_zero, List.getD_cons_succ]
        exact hK'
    refine Flow.done ?_
    clear hp
    go_wp2_with fail
    go_loopw [5, 6, 7, 8, 26] (fun a b c d u wr => ∃ (i : Nat) (l t r z : Int), i ≤ W * H ∧ u = .int .i64 i ∧ a = .int .i64 l ∧ b = .int .i64 t ∧ c = .int .i64 r ∧ d = .int .i64 z ∧ Hid (BInv bs W H i l t r z) ∧ Bl w3 wr) (fun _ _ _ _ u _ => W * H - (intOf u).toNat)
    case atStart => exact ⟨0, _, _, _, _, Nat.zero_le _, rfl, rfl, rfl, rfl, rfl, St, (Bl.refl _).drew⟩
    case round =>
      clear k3
      obtain ⟨i, l, t, r, z, hi, rfl, rfl, rfl, rfl, rfl, hinv, hbr⟩ := hrel
      have k3 := ((w21.bl hb3).bl hbr).all3
      by_cases hlt : i < W * H
      · have hWp : ¬ (W = 0) := by rintro rfl; simp at hlt
        have il : (i : Int) < (W : Int) * (H : Int) := by have := Int.natCast_mul W H; omega
        obtain ⟨ad, ua, eA, hu, hca⟩ := ((HA.out.bl hb3).bl hbr).at_ hlt
        have hua : ua = .bool (bs.getD i false) := by
          simp only [List.getElem?_map, Option.map_eq_some_iff] at hu
          obtain ⟨b, hb1, hb2⟩ := hu
          rw [← hb2, List.getD, hb1]; rfl
        clear hu
        subst hua eA
        cases hva : bs.getD i false
        · have hn := hinv.out.no hva
          have Hn := Lib.hid hn
          rw [hva] at hca
          clear hn hva hinv
          go_wp2_with fail
          exact ⟨⟨i + 1, _, _, _, _, hlt, by go_num, rfl, rfl, rfl, rfl, Hn, hbr⟩, by simp [intOf]; omega⟩
        · obtain ⟨mlt, dlt, _⟩ := place_parts hlt
          have hy := fun l' t' r' z' e1 e2 e3 e4 => hinv.out.yes (l' := l') (t' := t') (r' := r') (b' := z') hva mlt dlt e1 e2 e3 e4
          rw [hva] at hca
          obtain ⟨xi, hxi⟩ : ∃ n, n = i % W := ⟨_, rfl⟩
          obtain ⟨yi, hyi⟩ : ∃ n, n = i / W := ⟨_, rfl⟩
          have e1 : (i : Int) % (W : Int) = (xi : Int) := by rw [hxi]; simp
          have e2 : (i : Int) / (W : Int) = (yi : Int) := by rw [hyi]; simp
          have e3 := hxi.symm
          have e4 := hyi.symm
          rw [← hxi] at mlt
          rw [← hyi] at dlt
          simp only [← hxi, ← hyi] at hy
          have hbd := hinv.out.bd hi
          obtain ⟨l', hl'⟩ : ∃ l', l' = if (xi : Int) < l then (xi : Int) else l := ⟨_, rfl⟩
          obtain ⟨t', ht'⟩ : ∃ t', t' = if (yi : Int) < t then (yi : Int) else t := ⟨_, rfl⟩
          obtain ⟨r', hr'⟩ : ∃ r', r' = if r < (xi : Int) then (xi : Int) else r := ⟨_, rfl⟩
          obtain ⟨z', hz'⟩ : ∃ z', z' = if z < (yi : Int) then (yi : Int) else z := ⟨_, rfl⟩
          have Hn := Lib.hid (hy l' t' r' z' hl' ht' hr' hz')
          have f1 := hl'.symm
          have f2 := ht'.symm
          have f3 := hr'.symm
          have f4 := hz'.symm
          have g1 : (if l < (xi : Int) then l else (xi : Int)) = l' := by rw [hl']; split <;> split <;> omega
          have g2 : (if t < (yi : Int) then t else (yi : Int)) = t' := by rw [ht']; split <;> split <;> omega
          have g3 : (if (xi : Int) < r then r else (xi : Int)) = r' := by rw [hr']; split <;> split <;> omega
          have g4 : (if (yi : Int) < z then z else (yi : Int)) = z' := by rw [hz']; split <;> split <;> omega
          clear hxi hyi hy hinv hva hl' ht' hr' hz'
          go_upto_region 9 with fail
          refine wp_region_flow [(true, 0), (true, 1), (true, 2), (true, 3), (true, 4), (true, 5), (true, 6), (true, 7), (true, 8), (true, 9)] (fun _ => false) (by kernel_rfl) (by kernel_rfl) (by kernel_rfl) (by kernel_rfl) ?_
          iterate 1
            apply Flow.mv _ rfl
            · intro K' hK'
              simp only [Act.put, Act.eval, List.setIfInBounds_toArray, List.set_cons_zero, List.set_cons_succ, arr_getD, List.getD_cons_zero, List.getD_cons_succ]
              exact hK'
          iterate 1
            apply Flow.calm2 _ _ rfl rfl
            · intro w' hb' K' hK'
              obtain ⟨hc', hf'⟩ := hb'.rule
              go_simp
              try go_ints
              exact hK'
            · intro K' hK'
              simp only [Act.put, List.setIfInBounds_toArray, List.set_cons_zero, List.set_cons_succ]
              exact hK'
          iterate 1
            apply Flow.calm2 _ _ rfl rfl
            · intro w' hb' K' hK'
              obtain ⟨hc', hf'⟩ := hb'.rule
              go_simp
              try go_ints
              exact hK'
            · intro K' hK'
              simp only [Act.put, List.setIfInBounds_toArray, List.set_cons_zero, List.set_cons_succ]
              exact hK'
          iterate 1
            apply Flow.calm2 _ _ rfl rfl
            · intro w' hb' K' hK'
              obtain ⟨hc', hf'⟩ := hb'.rule
              go_simp
              try go_ints
              exact hK'
            · intro K' hK'
              simp only [Act.put, List.setIfInBounds_toArray, List.set_cons_zero, List.set_cons_succ]
              exact hK'
          iterate 1
            apply Flow.mv _ rfl
            · intro K' hK'
              simp only [Act.put, Act.eval, List.setIfInBounds_toArray, List.set_cons_zero, List.set_cons_succ, arr_getD, List.getD_cons_zero, List.getD_cons_succ]
              exact hK'
          iterate 1
            apply Flow.calm2 _ _ rfl rfl
            · intro w' hb' K' hK'
              obtain ⟨hc', hf'⟩ := hb'.rule
              go_simp
              try go_ints
              exact hK'
            · intro K' hK'
              simp only [Act.put, List.setIfInBounds_toArray, List.set_cons_zero, List.set_cons_succ]
              exact hK'
          iterate 1
            apply Flow.calm2 _ _ rfl rfl
            · intro w' hb' K' hK'
              obtain ⟨hc', hf'⟩ := hb'.rule
              go_simp
              try go_ints
              exact hK'
            · intro K' hK'
              simp only [Act.put, List.setIfInBounds_toArray, List.set_cons_zero, List.set_cons_succ]
              exact hK'
          iterate 1
            apply Flow.calm2 _ _ rfl rfl
            · intro w' hb' K' hK'
              obtain ⟨hc', hf'⟩ := hb'.rule
              go_simp
              try go_ints
              exact hK'
            · intro K' hK'
              simp only [Act.put, List.setIfInBounds_toArray, List.set_cons_zero, List.set_cons_succ]
              exact hK'
          iterate 2
            apply Flow.asg _ rfl
            · intro K' hK'
              simp only [Act.put, Act.eval, List.setIfInBounds_toArray, List.set_cons_zero, List.set_cons_succ, arr_getD, List.getD_cons_zero, List.getD_cons_succ]
              exact hK'
          refine Flow.done ?_
          go_wp2_with fail
          exact ⟨⟨i + 1, _, _, _, _, hlt, by go_num, rfl, rfl, rfl, rfl, Hn, hbr.drew⟩, by simp [intOf]; omega⟩
      · obtain rfl : i = W * H := by omega
        have hbd := hinv.out.bd (Nat.le_refl _)
        have k2 := ((w22.bl hb3).bl hbr).all4
        have hle := (w2b.trans hb3).trans hbr
        rcases hinv.out.done with ⟨hr, hbi⟩ | ⟨hr, hbi⟩
        · have Hbi := Lib.hid hbi
          clear hinv hbi
          go_wp2_with fail
          have hp := Hp.out
          refine bodyPost_ret (v := .tuple #[.agg #[.int .i64 0, .int .i64 0, .int .i64 0, .int .i64 0], .int .i64 10]) (by simp [results, Tryd.results83, go_sem, k2]) rfl ⟨_, _, _, _, _, rfl, fun h => absurd hp h, fun _ => by first | exact ⟨false, by simpa using Hbi.out, rfl⟩ | exact Or.inl ⟨by simpa using Hbi.out, rfl⟩, ?_⟩
          exact ((((hle.setCell (by simp) _).setCell (by simp) _).setCell (by simp) _).setCell (by simp) _)
        · have Hbi := Lib.hid hbi
          clear hinv hbi
          go_wp2_with fail
          have hp := Hp.out
          refine bodyPost_ret (v := .tuple #[.agg #[.int .i64 l, .int .i64 t, .int .i64 (r - l + 1), .int .i64 (z - t + 1)], .int .i64 0]) (by simp [results, Tryd.results83, go_sem, k2]) rfl ⟨_, _, _, _, _, rfl, fun h => absurd hp h, fun _ => by first | exact ⟨true, by simpa using Hbi.out, rfl⟩ | exact Or.inr ⟨by simpa using Hbi.out, rfl⟩, ?_⟩
          exact ((((hle.setCell (by simp) _).setCell (by simp) _).setCell (by simp) _).setCell (by simp) _)
  · have hq : (pageErr W H an != 0) = true := by simp [hp]
    have Hp := Lib.hid hp
    clear hp
    go_enter Tryd.func83, Tryd.ntmps83
    go_wp2_with fail
    refine (checkBits_any _ _ _ _ _ _).mono ?_
    rintro e w3 ⟨rfl, hb3⟩
    have k2 := (w22.bl hb3).all4
    go_wp2_with fail
    refine bodyPost_ret (v := .tuple #[.agg #[.int .i64 0, .int .i64 0, .int .i64 0, .int .i64 0], .int .i64 (pageErr W H an)]) (by simp [results, Tryd.results83, go_sem, k2]) rfl ⟨_, _, _, _, _, rfl, fun _ => ⟨rfl, rfl, rfl, rfl, rfl⟩, fun h => absurd h Hp.out, ?_⟩
    exact (((((w2b.trans hb3).setCell (by simp) _).setCell (by simp) _).setCell (by simp) _).setCell (by simp) _)

end Go.Proofs.YtjelhdpcaileiaaDoor


/-! Margins; bedref2.Moved and CutOf. -/
namespace Go.Proofs.YtjelhdpcaileiaaDoor
open Go.RowKit

/-! ### Margins -/
def boundErr (W H : Int) (k : Nat) (is : Bool) : Int := firstNZ [pageErr W H k, whenI (!is) 10]
/-! ### bedref2.Moved and CutOf -/
def movedF (bs : List Bool) (W H : Nat) (dx dy : Int) (x y : Nat) : Bool := atI bs W H ((x : Int) - dx) ((y : Int) - dy)
end Go.Proofs.YtjelhdpcaileiaaDoor
