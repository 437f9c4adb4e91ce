/- Two rows of ints that grow side by side. No condition. -/
import Derived.Test.YtahfkahfaiidgaaGreatDoorMClaimForms1
import Derived.Test.YtahfkahfaiidgaaGreatDoorMClaimForms0
import Derived.Maps.AppendAt

namespace Go.Proofs.YtahfkahfaiidgaaGreatDoor
open Go.RowKit

/-! ### Bounds -/
set_option maxRecDepth 100000 in
set_option maxHeartbeats 4000000 in
theorem bounds_any (W H : Int) (A : Option Addr) (an ac : Nat) (bs : List Bool) (w : World) (hA : Reads w 1 A an (bs.map .bool)) :
    Calls Tryz.prog 96 #[.agg #[.int .i64 W, .int .i64 H, .slice A an ac]] w fun e w' =>
      ∃ X Y BW BH err, e = .returned (.tuple #[.agg #[.int .i64 X, .int .i64 Y, .int .i64 BW, .int .i64 BH], .int .i64 err]) ∧ (pageErr W H an ≠ 0 → err = pageErr W H an ∧ X = 0 ∧ Y = 0 ∧ BW = 0 ∧ BH = 0) ∧
        (pageErr W H an = 0 → ∃ is, BoundsIs bs W.toNat H.toNat is X Y BW BH ∧ err = whenI (!is) 10) ∧ Bl w w' := by
  let w2 := ((w).alloc (.cells #[.int .i64 W, .int .i64 H, .slice A an ac] 42)).alloc (.cells #[.int .i64 0, .int .i64 0, .int .i64 0, .int .i64 0] 79)
  have w2b : Bl w w2 := ((Bl.refl w).alloc _).alloc _
  have w21 : Blk w2 (w.heap.size) 42 #[.int .i64 W, .int .i64 H, .slice A an ac] := by
    have h0 := Blk.new (w) 42 #[.int .i64 W, .int .i64 H, .slice A an ac]
    exact (h0.alloc _)
  have w22 : Blk w2 (w.heap.size + 1) 79 #[.int .i64 0, .int .i64 0, .int .i64 0, .int .i64 0] := by
    have h0 := Blk.new ((w).alloc (.cells #[.int .i64 W, .int .i64 H, .slice A an ac] 42)) 79 #[.int .i64 0, .int .i64 0, .int .i64 0, .int .i64 0]
    simp only [World.size_alloc] at h0
    exact h0
  have k1 := w21.all3
  by_cases hp : pageErr W H an = 0
  · have Hp := Lib.hid hp
    obtain ⟨W, H, rfl, rfl, rfl, u1, u2, u3⟩ := page_nat hp
    have HA := Lib.hid (hA.bl w2b)
    have St := Lib.hid (BInv.start bs W H)
    clear hA
    go_enter Tryz.func96, Tryz.ntmps96
    go_wp2_with fail
    refine (checkBits_any _ _ _ _ _ _).mono ?_
    rintro e w3 ⟨rfl, hb3⟩
    have k3 := (w21.bl hb3).all3
    clear k1
    go_upto_region 4 with fail
    refine wp_region_flow [(true, 0), (true, 1), (true, 2), (true, 3), (true, 4), (true, 5), (true, 6), (true, 7)] (fun _ => false) (by kernel_rfl) (by kernel_rfl) (by kernel_rfl) (by kernel_rfl) ?_
    iterate 1
      apply Flow.calm2 _ _ rfl rfl
      · intro w' hb' K' hK'
        obtain ⟨hc', hf'⟩ := hb'.rule
        go_simp
        try go_ints
        exact hK'
      · intro K' hK'
        simp only [Act.put, List.setIfInBounds_toArray, List.set_cons_zero, List.set_cons_succ]
        exact hK'
    iterate 1
      apply Flow.calm2 _ _ rfl rfl
      · intro w' hb' K' hK'
        obtain ⟨hc', hf'⟩ := hb'.rule
        go_simp
        try go_ints
        exact hK'
      · intro K' hK'
        simp only [Act.put, List.setIfInBounds_toArray, List.set_cons_zero, List.set_cons_succ]
        exact hK'
    iterate 1
      apply Flow.calm2 _ _ rfl rfl
      · intro w' hb' K' hK'
        obtain ⟨hc', hf'⟩ := hb'.rule
        go_simp
        try go_ints
        exact hK'
      · intro K' hK'
        simp only [Act.put, List.setIfInBounds_toArray, List.set_cons_zero, List.set_cons_succ]
        exact hK'
    iterate 1
      apply Flow.calm2 _ _ rfl rfl
      · intro w' hb' K' hK'
        obtain ⟨hc', hf'⟩ := hb'.rule
        go_simp
        try go_ints
        exact hK'
      · intro K' hK'
        simp only [Act.put, List.setIfInBounds_toArray, List.set_cons_zero, List.set_cons_succ]
        exact hK'
    iterate 4
      apply Flow.asg _ rfl
      · intro K' hK'
        simp only [Act.put, Act.eval, List.setIfInBounds_toArray, List.set_cons_zero, List.set_cons_succ, arr_getD, List.getD_cons_zero, List.getD_cons_succ]
        exact hK'
    refine Flow.done ?_
    clear hp
    go_wp2_with fail
    go_loopw [5, 6, 7, 8, 26] (fun a b c d u wr => ∃ (i : Nat) (l t r z : Int), i ≤ W * H ∧ u = .int .i64 i ∧ a = .int .i64 l ∧ b = .int .i64 t ∧ c = .int .i64 r ∧ d = .int .i64 z ∧ Hid (BInv bs W H i l t r z) ∧ Bl w3 wr) (fun _ _ _ _ u _ => W * H - (intOf u).toNat)
    case atStart => exact ⟨0, _, _, _, _, Nat.zero_le _, rfl, rfl, rfl, rfl, rfl, St, (Bl.refl _).drew⟩
    case round =>
      clear k3
      obtain ⟨i, l, t, r, z, hi, rfl, rfl, rfl, rfl, rfl, hinv, hbr⟩ := hrel
      have k3 := ((w21.bl hb3).bl hbr).all3
      by_cases hlt : i < W * H
      · have hWp : ¬ (W = 0) := by rintro rfl; simp at hlt
        have il : (i : Int) < (W : Int) * (H : Int) := by have := Int.natCast_mul W H; omega
        obtain ⟨ad, ua, eA, hu, hca⟩ := ((HA.out.bl hb3).bl hbr).at_ hlt
        have hua : ua = .bool (bs.getD i false) := by
          simp only [List.getElem?_map, Option.map_eq_some_iff] at hu
          obtain ⟨b, hb1, hb2⟩ := hu
          rw [← hb2, List.getD, hb1]; rfl
        clear hu
        subst hua eA
        cases hva : bs.getD i false
        · have hn := hinv.out.no hva
          have Hn := Lib.hid hn
          rw [hva] at hca
          clear hn hva hinv
          go_wp2_with fail
          exact ⟨⟨i + 1, _, _, _, _, hlt, by go_num, rfl, rfl, rfl, rfl, Hn, hbr⟩, by simp [intOf]; omega⟩
        · obtain ⟨mlt, dlt, _⟩ := place_parts hlt
          have hy := fun l' t' r' z' e1 e2 e3 e4 => hinv.out.yes (l' := l') (t' := t') (r' := r') (b' := z') hva mlt dlt e1 e2 e3 e4
          rw [hva] at hca
          obtain ⟨xi, hxi⟩ : ∃ n, n = i % W := ⟨_, rfl⟩
          obtain ⟨yi, hyi⟩ : ∃ n, n = i / W := ⟨_, rfl⟩
          have e1 : (i : Int) % (W : Int) = (xi : Int) := by rw [hxi]; simp
          have e2 : (i : Int) / (W : Int) = (yi : Int) := by rw [hyi]; simp
          have e3 := hxi.symm
          have e4 := hyi.symm
          rw [← hxi] at mlt
          rw [← hyi] at dlt
          simp only [← hxi, ← hyi] at hy
          have hbd := hinv.out.bd hi
          obtain ⟨l', hl'⟩ : ∃ l', l' = if (xi : Int) < l then (xi : Int) else l := ⟨_, rfl⟩
          obtain ⟨t', ht'⟩ : ∃ t', t' = if (yi : Int) < t then (yi : Int) else t := ⟨_, rfl⟩
          obtain ⟨r', hr'⟩ : ∃ r', r' = if r < (xi : Int) then (xi : Int) else r := ⟨_, rfl⟩
          obtain ⟨z', hz'⟩ : ∃ z', z' = if z < (yi : Int) then (yi : Int) else z := ⟨_, rfl⟩
          have Hn := Lib.hid (hy l' t' r' z' hl' ht' hr' hz')
          have f1 := hl'.symm
          have f2 := ht'.symm
          have f3 := hr'.symm
          have f4 := hz'.symm
          have g1 : (if l < (xi : Int) then l else (xi : Int)) = l' := by rw [hl']; split <;> split <;> omega
          have g2 : (if t < (yi : Int) then t else (yi : Int)) = t' := by rw [ht']; split <;> split <;> omega
          have g3 : (if (xi : Int) < r then r else (xi : Int)) = r' := by rw [hr']; split <;> split <;> omega
          have g4 : (if (yi : Int) < z then z else (yi : Int)) = z' := by rw [hz']; split <;> split <;> omega
          clear hxi hyi hy hinv hva hl' ht' hr' hz'
          go_upto_region 9 with fail
          refine wp_region_flow [(true, 0), (true, 1), (true, 2), (true, 3), (true, 4), (true, 5), (true, 6), (true, 7), (true, 8), (true, 9)] (fun _ => false) (by kernel_rfl) (by kernel_rfl) (by kernel_rfl) (by kernel_rfl) ?_
          iterate 1
            apply Flow.mv _ rfl
            · intro K' hK'
              simp only [Act.put, Act.eval, List.setIfInBounds_toArray, List.set_cons_zero, List.set_cons_succ, arr_getD, List.getD_cons_zero, List.getD_cons_succ]
              exact hK'
          iterate 1
            apply Flow.calm2 _ _ rfl rfl
            · intro w' hb' K' hK'
              obtain ⟨hc', hf'⟩ := hb'.rule
              go_simp
              try go_ints
              exact hK'
            · intro K' hK'
              simp only [Act.put, List.setIfInBounds_toArray, List.set_cons_zero, List.set_cons_succ]
              exact hK'
          iterate 1
            apply Flow.calm2 _ _ rfl rfl
            · intro w' hb' K' hK'
              obtain ⟨hc', hf'⟩ := hb'.rule
              go_simp
              try go_ints
              exact hK'
            · intro K' hK'
              simp only [Act.put, List.setIfInBounds_toArray, List.set_cons_zero, List.set_cons_succ]
              exact hK'
          iterate 1
            apply Flow.calm2 _ _ rfl rfl
            · intro w' hb' K' hK'
              obtain ⟨hc', hf'⟩ := hb'.rule
              go_simp
              try go_ints
              exact hK'
            · intro K' hK'
              simp only [Act.put, List.setIfInBounds_toArray, List.set_cons_zero, List.set_cons_succ]
              exact hK'
          iterate 1
            apply Flow.mv _ rfl
            · intro K' hK'
              simp only [Act.put, Act.eval, List.setIfInBounds_toArray, List.set_cons_zero, List.set_cons_succ, arr_getD, List.getD_cons_zero, List.getD_cons_succ]
              exact hK'
          iterate 1
            apply Flow.calm2 _ _ rfl rfl
            · intro w' hb' K' hK'
              obtain ⟨hc', hf'⟩ := hb'.rule
              go_simp
              try go_ints
              exact hK'
            · intro K' hK'
              simp only [Act.put, List.setIfInBounds_toArray, List.set_cons_zero, List.set_cons_succ]
              exact hK'
          iterate 1
            apply Flow.calm2 _ _ rfl rfl
            · intro w' hb' K' hK'
              obtain ⟨hc', hf'⟩ := hb'.rule
              go_simp
              try go_ints
              exact hK'
            · intro K' hK'
              simp only [Act.put, List.setIfInBounds_toArray, List.set_cons_zero, List.set_cons_succ]
              exact hK'
          iterate 1
            apply Flow.calm2 _ _ rfl rfl
            · intro w' hb' K' hK'
              obtain ⟨hc', hf'⟩ := hb'.rule
              go_simp
              try go_ints
              exact hK'
            · intro K' hK'
              simp only [Act.put, List.setIfInBounds_toArray, List.set_cons_zero, List.set_cons_succ]
              exact hK'
          iterate 2
            apply Flow.asg _ rfl
            · intro K' hK'
              simp only [Act.put, Act.eval, List.setIfInBounds_toArray, List.set_cons_zero, List.set_cons_succ, arr_getD, List.getD_cons_zero, List.getD_cons_succ]
              exact hK'
          refine Flow.done ?_
          go_wp2_with fail
          exact ⟨⟨i + 1, _, _, _, _, hlt, by go_num, rfl, rfl, rfl, rfl, Hn, hbr.drew⟩, by simp [intOf]; omega⟩
      · obtain rfl : i = W * H := by omega
        have hbd := hinv.out.bd (Nat.le_refl _)
        have k2 := ((w22.bl hb3).bl hbr).all4
        have hle := (w2b.trans hb3).trans hbr
        rcases hinv.out.done with ⟨hr, hbi⟩ | ⟨hr, hbi⟩
        · have Hbi := Lib.hid hbi
          clear hinv hbi
          go_wp2_with fail
          have hp := Hp.out
          refine bodyPost_ret (v := .tuple #[.agg #[.int .i64 0, .int .i64 0, .int .i64 0, .int .i64 0], .int .i64 10]) (by simp [results, Tryz.results96, go_sem, k2]) rfl ⟨_, _, _, _, _, rfl, fun h => absurd hp h, fun _ => by first | exact ⟨false, by simpa using Hbi.out, rfl⟩ | exact Or.inl ⟨by simpa using Hbi.out, rfl⟩, ?_⟩
          exact ((((hle.setCell (by simp) _).setCell (by simp) _).setCell (by simp) _).setCell (by simp) _)
        · have Hbi := Lib.hid hbi
          clear hinv hbi
          go_wp2_with fail
          have hp := Hp.out
          refine bodyPost_ret (v := .tuple #[.agg #[.int .i64 l, .int .i64 t, .int .i64 (r - l + 1), .int .i64 (z - t + 1)], .int .i64 0]) (by simp [results, Tryz.results96, go_sem, k2]) rfl ⟨_, _, _, _, _, rfl, fun h => absurd hp h, fun _ => by first | exact ⟨true, by simpa using Hbi.out, rfl⟩ | exact Or.inr ⟨by simpa using Hbi.out, rfl⟩, ?_⟩
          exact ((((hle.setCell (by simp) _).setCell (by simp) _).setCell (by simp) _).setCell (by simp) _)
  · have hq : (pageErr W H an != 0) = true := by simp [hp]
    have Hp := Lib.hid hp
    clear hp
    go_enter Tryz.func96, Tryz.ntmps96
    go_wp2_with fail
    refine (checkBits_any _ _ _ _ _ _).mono ?_
    rintro e w3 ⟨rfl, hb3⟩
    have k2 := (w22.bl hb3).all4
    go_wp2_with fail
    refine bodyPost_ret (v := .tuple #[.agg #[.int .i64 0, .int .i64 0, .int .i64 0, .int .i64 0], .int .i64 (pageErr W H an)]) (by simp [results, Tryz.results96, go_sem, k2]) rfl ⟨_, _, _, _, _, rfl, fun _ => ⟨rfl, rfl, rfl, rfl, rfl⟩, fun h => absurd h Hp.out, ?_⟩
    exact (((((w2b.trans hb3).setCell (by simp) _).setCell (by simp) _).setCell (by simp) _).setCell (by simp) _)

end Go.Proofs.YtahfkahfaiidgaaGreatDoor


/-! bedref2.CutOf. -/
namespace Go.Proofs.YtahfkahfaiidgaaGreatDoor
open Go.RowKit

set_option maxRecDepth 100000 in
set_option maxHeartbeats 1000000 in
theorem cutOf1_any (p q W H X Y BW BH : Nat) (A : Option Addr) (ac : Nat) (bs : List Bool) (x y : Nat) (w : World) (hp : Blk w p 42 #[.int .i64 W, .int .i64 H, .slice A (W * H) ac]) (hq : Blk w q 79 #[.int .i64 X, .int .i64 Y, .int .i64 BW, .int .i64 BH])
    (hA : Reads w 1 A (W * H) (bs.map .bool)) (hW : W ≤ 4000) (hH : H ≤ 4000) (hx : x < BW) (hy : y < BH) (hX : X + BW ≤ W) (hY : Y + BH ≤ H) :
    Calls Tryz.prog 105 #[.int .i64 x, .int .i64 y, .pointer (some ⟨p, 0, none⟩), .pointer (some ⟨q, 0, none⟩)] w fun e w' => e = .returned (.bool (cutF bs W X Y x y)) ∧ Bl w w' := by
  have kp := hp.all3
  have kq := hq.all4
  have hat := at_any W H A ac bs ((X + x : Nat) : Int) ((Y + y : Nat) : Int) w hA hW hH
  rw [atI_in bs W H _ _ (by omega) (by omega)] at hat
  have e1 : ((X + x : Nat) : Int) = (X : Int) + (x : Int) := by simp
  have e2 : ((Y + y : Nat) : Int) = (Y : Int) + (y : Int) := by simp
  rw [e1, e2] at hat
  have Hat := Lib.hid hat
  clear hat hA e1 e2
  go_enter Tryz.func105, Tryz.ntmps105
  go_wp2_with fail
  refine Hat.out.mono ?_
  rintro e w1 ⟨rfl, hb1⟩
  go_wp2_with fail
  go_ret
  exact ⟨rfl, hb1⟩
set_option maxRecDepth 100000 in
set_option maxHeartbeats 1000000 in
theorem cutOf_any (W H X Y BW BH : Nat) (A : Option Addr) (ac : Nat) (bs : List Bool) (w : World) (hA : Reads w 1 A (W * H) (bs.map .bool)) (hW : W ≤ 4000) (hH : H ≤ 4000) (hX : X + BW ≤ W) (hY : Y + BH ≤ H) :
    Calls Tryz.prog 72 #[.agg #[.int .i64 W, .int .i64 H, .slice A (W * H) ac], .agg #[.int .i64 X, .int .i64 Y, .int .i64 BW, .int .i64 BH]] w fun e w' => ∃ R rc, e = .returned (.agg #[.int .i64 BW, .int .i64 BH, .slice R (BW * BH) rc]) ∧ Reads w' 1 R (BW * BH) ((grid BW BH (cutF bs W X Y)).map .bool) ∧ (∀ ad, R = some ad → w.heap.size + 3 ≤ ad.block) ∧ Bl w w' := by
  let w2 := (((w).alloc (.cells #[.int .i64 W, .int .i64 H, .slice A (W * H) ac] 42)).alloc (.cells #[.int .i64 X, .int .i64 Y, .int .i64 BW, .int .i64 BH] 79)).alloc (.cells #[.int .i64 0, .int .i64 0, .slice none 0 0] 42)
  have w2b : Bl w w2 := (((Bl.refl w).alloc _).alloc _).alloc _
  have w21 : Blk w2 (w.heap.size) 42 #[.int .i64 W, .int .i64 H, .slice A (W * H) ac] := by
    have h0 := Blk.new (w) 42 #[.int .i64 W, .int .i64 H, .slice A (W * H) ac]
    exact ((h0.alloc _).alloc _)
  have w22 : Blk w2 (w.heap.size + 1) 79 #[.int .i64 X, .int .i64 Y, .int .i64 BW, .int .i64 BH] := by
    have h0 := Blk.new ((w).alloc (.cells #[.int .i64 W, .int .i64 H, .slice A (W * H) ac] 42)) 79 #[.int .i64 X, .int .i64 Y, .int .i64 BW, .int .i64 BH]
    simp only [World.size_alloc] at h0
    exact (h0.alloc _)
  have w23 : Blk w2 (w.heap.size + 1 + 1) 42 #[.int .i64 0, .int .i64 0, .slice none 0 0] := by
    have h0 := Blk.new (((w).alloc (.cells #[.int .i64 W, .int .i64 H, .slice A (W * H) ac] 42)).alloc (.cells #[.int .i64 X, .int .i64 Y, .int .i64 BW, .int .i64 BH] 79)) 42 #[.int .i64 0, .int .i64 0, .slice none 0 0]
    simp only [World.size_alloc] at h0
    exact h0
  have hbd : BW * BH ≤ 16000000 := by have := Nat.mul_le_mul (show BW ≤ 4000 by omega) (show BH ≤ 4000 by omega); omega
  have hP : Paints Tryz.prog 105 #[.pointer (some ⟨w.heap.size, 0, none⟩), .pointer (some ⟨w.heap.size + 1, 0, none⟩)] Value.bool w2 BW BH (cutF bs W X Y) :=
    ⟨enters Tryz.func105 (by kernel_rfl) rfl, fun wy x y hb hx hy => cutOf1_any _ _ W H X Y BW BH A ac bs x y wy (w21.bl hb) (w22.bl hb) ((hA.bl w2b).bl hb) hW hH hx hy hX hY⟩
  have HP := Lib.hid hP
  clear hP hA
  have k2 := w22.all4
  go_enter Tryz.func72, Tryz.ntmps72
  go_wp2_with fail
  refine (Made_any BW BH _ _ _ _ (by omega) (by omega) (by omega) HP.out).mono ?_
  rintro e w6 ⟨r, rfl, hpg, hb6⟩
  have kr3 := (w23.bl hb6).all3
  have hsz3 := w23.lt
  have hle6 := w2b.trans hb6
  obtain ⟨R, rc, rfl, hR, hRn⟩ := hpg
  have hRn' : ∀ ad, R = some ad → w.heap.size + 3 ≤ ad.block := fun ad h => by have := hRn ad h; omega
  have HR := Lib.hid hR; have HRn := Lib.hid hRn'
  clear hR hRn hRn'
  go_wp2_with fail
  refine bodyPost_ret (v := .agg #[.int .i64 BW, .int .i64 BH, .slice R (BW * BH) rc]) (by simp [results, Tryz.results72, go_sem, kr3]) rfl ⟨R, rc, rfl, ?_, HRn.out, ?_⟩
  · exact ((HR.out.store HRn.out (by simp) _).store HRn.out (by simp) _).store HRn.out (by simp) _
  · exact (((hle6.setCell (by simp; omega) _).setCell (by simp; omega) _).setCell (by simp; omega) _)

end Go.Proofs.YtahfkahfaiidgaaGreatDoor


/-! abs, size, DifferOf, and the closures of the law on aligning. -/
namespace Go.Proofs.YtahfkahfaiidgaaGreatDoor
open Go.RowKit

set_option maxHeartbeats 400000 in
theorem abs_any (n : Int) (w : World) (h : -1000000 ≤ n ∧ n ≤ 1000000) : Calls Tryz.prog 104 #[.int .i64 n] w fun e w' => e = .returned (.int .i64 (n.natAbs : Int)) ∧ w = w' := by
  have h1 : (if n < -n then -n else n) = (n.natAbs : Int) := by split <;> omega
  have h2 : (if -n < n then n else -n) = (n.natAbs : Int) := by split <;> omega
  go_enter Tryz.func104, Tryz.ntmps104
  go_wp2
  go_ret
  exact ⟨rfl, rfl⟩
theorem cntD_succ (bs cs : List Bool) (W H : Nat) (dx dy : Int) (x y : Nat) (hx : x < W) (hy : y < H) :
    cntD bs cs W H dx dy (y * W + x + 1) = cntD bs cs W H dx dy (y * W + x) + (if (atI bs W H x y != atI cs W H ((x : Int) - dx) ((y : Int) - dy)) = true then 1 else 0) := by
  have ex : (y * W + x) % W = x := by rw [Nat.mul_comm, Nat.mul_add_mod, Nat.mod_eq_of_lt hx]
  have ey : (y * W + x) / W = y := by rw [Nat.mul_comm, Nat.mul_add_div (by omega), Nat.div_eq_of_lt hx, Nat.add_zero]
  have e : differs bs cs W H dx dy (y * W + x) = (atI bs W H x y != atI cs W H ((x : Int) - dx) ((y : Int) - dy)) := by
    unfold differs
    rw [ex, ey, atI_in bs W H x y hx hy]
    rfl
  rw [cntD, e]

set_option maxRecDepth 100000 in
set_option maxHeartbeats 1000000 in
theorem differOf_any (W H : Nat) (A C : Option Addr) (ac cc : Nat) (bs cs : List Bool) (dx dy : Int) (w : World) (hA : Reads w 1 A (W * H) (bs.map .bool)) (hC : Reads w 1 C (W * H) (cs.map .bool)) (hW : W ≤ 4000) (hH : H ≤ 4000)
    (hx : -8 ≤ dx ∧ dx ≤ 8) (hy : -8 ≤ dy ∧ dy ≤ 8) :
    Calls Tryz.prog 71 #[.agg #[.int .i64 W, .int .i64 H, .slice A (W * H) ac], .agg #[.int .i64 W, .int .i64 H, .slice C (W * H) cc], .int .i64 dx, .int .i64 dy] w
      fun e w' => e = .returned (.int .i64 (cntD bs cs W H dx dy (W * H))) ∧ Bl w w' := by
  let w2 := ((w).alloc (.cells #[.int .i64 W, .int .i64 H, .slice A (W * H) ac] 42)).alloc (.cells #[.int .i64 W, .int .i64 H, .slice C (W * H) cc] 42)
  have w2b : Bl w w2 := ((Bl.refl w).alloc _).alloc _
  have w21 : Blk w2 (w.heap.size) 42 #[.int .i64 W, .int .i64 H, .slice A (W * H) ac] := by
    have h0 := Blk.new (w) 42 #[.int .i64 W, .int .i64 H, .slice A (W * H) ac]
    exact (h0.alloc _)
  have w22 : Blk w2 (w.heap.size + 1) 42 #[.int .i64 W, .int .i64 H, .slice C (W * H) cc] := by
    have h0 := Blk.new ((w).alloc (.cells #[.int .i64 W, .int .i64 H, .slice A (W * H) ac] 42)) 42 #[.int .i64 W, .int .i64 H, .slice C (W * H) cc]
    simp only [World.size_alloc] at h0
    exact h0
  have k1 := w21.all3
  have hbd : W * H ≤ 16000000 := by have := Nat.mul_le_mul hW hH; omega
  go_enter Tryz.func71, Tryz.ntmps71
  go_wp2_with fail
  go_loopw [9, 14] (fun n u wr => ∃ y : Nat, y ≤ H ∧ u = .int .i64 y ∧ n = .int .i64 (cntD bs cs W H dx dy (y * W)) ∧ Bl w2 wr) (fun _ u _ => H - (intOf u).toNat)
  case atStart => exact ⟨0, Nat.zero_le _, rfl, by rw [Nat.zero_mul]; rfl, Bl.refl _⟩
  case round =>
    obtain ⟨y, hy1, rfl, rfl, hbr⟩ := hrel
    have k1 := (w21.bl hbr).all3
    by_cases hlt : y < H
    · go_wp2_with fail
      go_loopw [9, 19] (fun n u wr => ∃ x : Nat, x ≤ W ∧ u = .int .i64 x ∧ n = .int .i64 (cntD bs cs W H dx dy (y * W + x)) ∧ Bl w2 wr) (fun _ u _ => W - (intOf u).toNat)
      case atStart => exact ⟨0, Nat.zero_le _, rfl, rfl, hbr⟩
      case round =>
        clear k1 hbr
        rename_i wo _ _ _
        obtain ⟨x, hx1, rfl, rfl, hbr⟩ := hrel
        have k1 := (w21.bl hbr).all3
        have k2 := (w22.bl hbr).all3
        by_cases hlt2 : x < W
        · have hs := cntD_succ bs cs W H dx dy x y hlt2 hlt
          have hp := place_lt hlt2 hlt
          have hc := cntD_le bs cs W H dx dy (y * W + x)
          have ha1 := at_any W H A ac bs (x : Int) (y : Int) wr.drew (((hA.bl w2b).bl hbr).bl (Bl.refl _).drew) hW hH
          have ha2 := fun (w1 : World) (hb : Bl wr.drew w1) => at_any W H C cc cs ((x : Int) - dx) ((y : Int) - dy) w1 ((((hC.bl w2b).bl hbr).bl (Bl.refl _).drew).bl hb) hW hH
          obtain ⟨va, hva⟩ : ∃ v, v = atI bs W H x y := ⟨_, rfl⟩
          obtain ⟨vb, hvb⟩ : ∃ v, v = atI cs W H ((x : Int) - dx) ((y : Int) - dy) := ⟨_, rfl⟩
          obtain ⟨n0, hn0⟩ : ∃ n, n = cntD bs cs W H dx dy (y * W + x) := ⟨_, rfl⟩
          rw [← hva] at ha1
          rw [← hvb] at ha2
          rw [← hva, ← hvb, ← hn0] at hs
          rw [← hn0] at hc ⊢
          have Ha1 := Lib.hid ha1; have Ha2 := Lib.hid ha2; have Hs := Lib.hid hs; have Hn := Lib.hid hn0
          clear ha1 ha2 hva hvb hs hn0
          cases va <;> cases vb
          all_goals
            go_wp2_with fail
            refine wp_region_flow [(true, 0), (true, 1), (true, 2), (true, 4), (true, 5), (true, 6), (true, 7), (true, 8), (true, 9), (true, 10), (false, 3), (false, 11), (true, 12)] (fun _ => false) (by kernel_rfl) (by kernel_rfl) (by kernel_rfl) (by kernel_rfl) ?_
            iterate 1
              apply Flow.calm2 _ _ rfl rfl
              · intro w' hb' K' hK'
                obtain ⟨hc', hf'⟩ := hb'.rule
                go_simp
                try go_ints
                exact hK'
              · intro K' hK'
                simp only [Act.put, List.setIfInBounds_toArray, List.set_cons_zero, List.set_cons_succ]
                exact hK'
            iterate 2
              apply Flow.mv _ rfl
              · intro K' hK'
                simp only [Act.put, Act.eval, List.setIfInBounds_toArray, List.set_cons_zero, List.set_cons_succ, arr_getD, List.getD_cons_zero, List.getD_cons_succ]
                exact hK'
            iterate 1
              apply Flow.calm2 _ _ rfl rfl
              · intro w' hb' K' hK'
                obtain ⟨hc', hf'⟩ := hb'.rule
                go_simp
                try go_ints
                exact hK'
              · intro K' hK'
                simp only [Act.put, List.setIfInBounds_toArray, List.set_cons_zero, List.set_cons_succ]
                exact hK'
            iterate 2
              apply Flow.mv _ rfl
              · intro K' hK'
                simp only [Act.put, Act.eval, List.setIfInBounds_toArray, List.set_cons_zero, List.set_cons_succ, arr_getD, List.getD_cons_zero, List.getD_cons_succ]
                exact hK'
            iterate 1
              apply Flow.calm2 _ _ rfl rfl
              · intro w' hb' K' hK'
                obtain ⟨hc', hf'⟩ := hb'.rule
                go_simp
                try go_ints
                exact hK'
              · intro K' hK'
                simp only [Act.put, List.setIfInBounds_toArray, List.set_cons_zero, List.set_cons_succ]
                exact hK'
            iterate 2
              apply Flow.mv _ rfl
              · intro K' hK'
                simp only [Act.put, Act.eval, List.setIfInBounds_toArray, List.set_cons_zero, List.set_cons_succ, arr_getD, List.getD_cons_zero, List.getD_cons_succ]
                exact hK'
            iterate 1
              apply Flow.calm2 _ _ rfl rfl
              · intro w' hb' K' hK'
                obtain ⟨hc', hf'⟩ := hb'.rule
                go_simp
                try go_ints
                exact hK'
              · intro K' hK'
                simp only [Act.put, List.setIfInBounds_toArray, List.set_cons_zero, List.set_cons_succ]
                exact hK'
            apply Flow.move rfl
            go_wp2_with fail
            refine Ha1.out.mono ?_
            rintro e w1 ⟨rfl, HB1⟩
            go_wp2_with fail
            refine ⟨fun _ => (by first | exact HB1 | exact Bl.refl _), ?_⟩
            apply Flow.move rfl
            go_wp2_with fail
            refine (Ha2.out _ HB1).mono ?_
            rintro e w3 ⟨rfl, HB2⟩
            go_wp2_with fail
            refine ⟨fun _ => (by first | exact HB2 | exact Bl.refl _), ?_⟩
            iterate 1
              apply Flow.calm2 _ _ rfl rfl
              · intro w' hb' K' hK'
                obtain ⟨hc', hf'⟩ := hb'.rule
                go_simp
                try go_ints
                exact hK'
              · intro K' hK'
                simp only [Act.put, List.setIfInBounds_toArray, List.set_cons_zero, List.set_cons_succ]
                exact hK'
            refine Flow.done ?_
            go_wp2_with fail
            exact ⟨⟨x + 1, hlt2, by go_num, by have := Hs.out; simp at this; rw [← Nat.add_assoc, this]; try simp, ((hbr.trans (Bl.refl _).drew).trans HB1).trans HB2⟩, by simp [intOf]; omega⟩
        · go_wp2_with fail
          obtain rfl : x = W := by omega
          exact ⟨⟨y + 1, hlt, by go_num, by rw [Nat.add_mul, Nat.one_mul], hbr⟩, by simp [intOf]; omega⟩
    · obtain rfl : y = H := by omega
      go_wp2_with fail
      go_ret
      exact ⟨ret_int (by rw [Nat.mul_comm]), w2b.trans hbr⟩

end Go.Proofs.YtahfkahfaiidgaaGreatDoor


/-! Pasting one page on another one: in the program and in the reference. -/
namespace Go.Proofs.YtahfkahfaiidgaaGreatDoor
open Go.RowKit

/-! ### plain -/
def isApart (bW bH cW cH : Nat) (x y : Int) : Bool := decide (x ≤ -(cW : Int)) || decide ((bW : Int) ≤ x) || decide (y ≤ -(cH : Int)) || decide ((bH : Int) ≤ y)
def pasteF (bs cs : List Bool) (bW bH cW cH : Nat) (x y : Int) (u v : Nat) : Bool := pix bs bW u v || (!isApart bW bH cW cH x y && atI cs cW cH ((u : Int) - x) ((v : Int) - y))
theorem isApart_false {bW bH cW cH : Nat} {x y : Int} (h : isApart bW bH cW cH x y = false) : -(cW : Int) < x ∧ x < bW ∧ -(cH : Int) < y ∧ y < bH := by
  simp [isApart] at h; omega
theorem pasteF_pix {bs cs : List Bool} {bW bH cW cH : Nat} {x y : Int} {u v : Nat} (h : pix bs bW u v = true) : pasteF bs cs bW bH cW cH x y u v = true := by simp [pasteF, h]
theorem pasteF_apart {bs cs : List Bool} {bW bH cW cH : Nat} {x y : Int} {u v : Nat} (h : pix bs bW u v = false) (h2 : isApart bW bH cW cH x y = true) : pasteF bs cs bW bH cW cH x y u v = false := by simp [pasteF, h, h2]
theorem pasteF_at {bs cs : List Bool} {bW bH cW cH : Nat} {x y : Int} {u v : Nat} (h : pix bs bW u v = false) (h2 : isApart bW bH cW cH x y = false) : pasteF bs cs bW bH cW cH x y u v = atI cs cW cH ((u : Int) - x) ((v : Int) - y) := by simp [pasteF, h, h2]

/-! ### the program's closure -/
set_option maxRecDepth 100000 in
set_option maxHeartbeats 2000000 in
theorem paste1_any (pb pa px py pc : Nat) (bW bH cW cH : Nat) (A C : Option Addr) (bc cc : Nat) (bs cs : List Bool) (x y : Int) (u v : Nat) (w : World)
    (h1 : Blk w pb 42 #[.int .i64 bW, .int .i64 bH, .slice A (bW * bH) bc]) (h2 : Blk w pa 4 #[.bool (isApart bW bH cW cH x y)]) (h3 : Blk w px 3 #[.int .i64 x]) (h4 : Blk w py 3 #[.int .i64 y])
    (h5 : Blk w pc 42 #[.int .i64 cW, .int .i64 cH, .slice C (cW * cH) cc])
    (hA : Reads w 1 A (bW * bH) (bs.map .bool)) (hC : Reads w 1 C (cW * cH) (cs.map .bool)) (b1 : bW ≤ 4000) (b2 : bH ≤ 4000) (b3 : cW ≤ 4000) (b4 : cH ≤ 4000) (hu : u < bW) (hv : v < bH) :
    Calls Tryz.prog 129 #[.int .i64 u, .int .i64 v, .pointer (some ⟨pb, 0, none⟩), .pointer (some ⟨pa, 0, none⟩), .pointer (some ⟨px, 0, none⟩), .pointer (some ⟨py, 0, none⟩), .pointer (some ⟨pc, 0, none⟩)] w
      fun e w' => e = .returned (.bool (pasteF bs cs bW bH cW cH x y u v)) ∧ Bl w w' := by
  have k1 := h1.all3
  have k2 := h2.all1
  have k3 := h3.all1
  have k4 := h4.all1
  have k5 := h5.all3
  obtain ⟨ad, rfl, hc⟩ := hA.place hu hv
  have hk := place_lt hu hv
  obtain ⟨k, hkk⟩ : ∃ k, k = v * bW + u := ⟨_, rfl⟩
  rw [← hkk] at hc hk
  have ek : (v : Int) * (bW : Int) + (u : Int) = (k : Int) := by rw [hkk]; simp
  have hkl : (k : Int) < (bW : Int) * (bH : Int) := by have := Int.natCast_mul bW bH; omega
  have hq : (0 : Int) ≤ (v : Int) * (bW : Int) ∧ (v : Int) * (bW : Int) ≤ 16000000 := by
    have h5 := Int.natCast_mul v bW
    have h6 := Nat.mul_le_mul (show v ≤ 4000 by omega) b1
    omega
  have Hkk := Lib.hid hkk
  clear hkk h1 h2 h3 h4 h5 hA
  cases hp : pix bs bW u v
  case true =>
    have hf := pasteF_pix (cs := cs) (bH := bH) (cW := cW) (cH := cH) (x := x) (y := y) hp
    rw [hp] at hc
    have Hf := Lib.hid hf; have Hp := Lib.hid hp
    clear hf hp hC
    go_enter Tryz.func129, Tryz.ntmps129
    go_wp2
    go_ret
    exact ⟨ret_bool Hf.out.symm, Bl.refl _⟩
  case false =>
    rw [hp] at hc
    cases ha : isApart bW bH cW cH x y
    case true =>
      have hf := pasteF_apart (cs := cs) hp ha
      rw [ha] at k2
      have Hf := Lib.hid hf; have Hp := Lib.hid hp; have Ha := Lib.hid ha
      clear hf hp ha hC
      go_enter Tryz.func129, Tryz.ntmps129
      go_wp2
      go_ret
      exact ⟨ret_bool Hf.out.symm, Bl.refl _⟩
    case false =>
      have hf := pasteF_at (cs := cs) hp ha
      obtain ⟨r1, r2, r3, r4⟩ := isApart_false ha
      rw [ha] at k2
      have Hf := Lib.hid hf; have Hp := Lib.hid hp; have Ha := Lib.hid ha
      clear hf hp ha
      by_cases c1 : 0 ≤ (u : Int) - x ∧ (u : Int) - x < cW ∧ 0 ≤ (v : Int) - y ∧ (v : Int) - y < cH
      · obtain ⟨c1, c2, c3, c4⟩ := c1
        obtain ⟨X, hX⟩ := Int.eq_ofNat_of_zero_le c1
        obtain ⟨Y, hY⟩ := Int.eq_ofNat_of_zero_le c3
        have hXl : X < cW := by omega
        have hYl : Y < cH := by omega
        have hat := atI_in cs cW cH X Y hXl hYl
        rw [← hX, ← hY] at hat
        obtain ⟨cd, rfl, hd⟩ := hC.place hXl hYl
        have hj := place_lt hXl hYl
        obtain ⟨j, hjj⟩ : ∃ j, j = Y * cW + X := ⟨_, rfl⟩
        rw [← hjj] at hd hj
        have ej : ((v : Int) - y) * (cW : Int) + ((u : Int) - x) = (j : Int) := by rw [hjj, hX, hY]; simp
        have hjl : (j : Int) < (cW : Int) * (cH : Int) := by have := Int.natCast_mul cW cH; omega
        have hqj : (0 : Int) ≤ ((v : Int) - y) * (cW : Int) ∧ ((v : Int) - y) * (cW : Int) ≤ 16000000 := by
          have h5 := Int.natCast_mul Y cW
          have h6 := Nat.mul_le_mul (show Y ≤ 4000 by omega) b3
          rw [hY]; omega
        have Hat := Lib.hid hat; have HX := Lib.hid hX; have HY := Lib.hid hY; have Hjj := Lib.hid hjj
        clear hat hX hY hjj hC
        go_enter Tryz.func129, Tryz.ntmps129
        go_wp2_with fail
        refine wp_region_flow [(true, 0), (true, 1), (true, 2), (true, 3), (true, 4), (true, 5), (true, 6), (true, 7)] (fun _ => false) (by kernel_rfl) (by kernel_rfl) (by kernel_rfl) (by kernel_rfl) ?_
        iterate 1
          apply Flow.mv _ rfl
          · intro K' hK'
            simp only [Act.put, Act.eval, List.setIfInBounds_toArray, List.set_cons_zero, List.set_cons_succ, arr_getD, List.getD_cons_zero]
            exact hK'
        iterate 1
          apply Flow.calm2 _ _ rfl rfl
          · intro w' hb' K' hK'
            obtain ⟨hc', hf'⟩ := hb'.rule
            go_simp
            try go_ints
            exact hK'
          · intro K' hK'
            simp only [Act.put, List.setIfInBounds_toArray, List.set_cons_zero, List.set_cons_succ]
            exact hK'
        iterate 1
          apply Flow.calm2 _ _ rfl rfl
          · intro w' hb' K' hK'
            obtain ⟨hc', hf'⟩ := hb'.rule
            go_simp
            try go_ints
            exact hK'
          · intro K' hK'
            simp only [Act.put, List.setIfInBounds_toArray, List.set_cons_zero, List.set_cons_succ]
            exact hK'
        iterate 1
          apply Flow.mv _ rfl
          · intro K' hK'
            simp only [Act.put, Act.eval, List.setIfInBounds_toArray, List.set_cons_zero, List.set_cons_succ, arr_getD, List.getD_cons_zero, List.getD_cons_succ]
            exact hK'
        iterate 1
          apply Flow.calm2 _ _ rfl rfl
          · intro w' hb' K' hK'
            obtain ⟨hc', hf'⟩ := hb'.rule
            go_simp
            try go_ints
            exact hK'
          · intro K' hK'
            simp only [Act.put, List.setIfInBounds_toArray, List.set_cons_zero, List.set_cons_succ]
            exact hK'
        iterate 1
          apply Flow.calm2 _ _ rfl rfl
          · intro w' hb' K' hK'
            obtain ⟨hc', hf'⟩ := hb'.rule
            go_simp
            try go_ints
            exact hK'
          · intro K' hK'
            simp only [Act.put, List.setIfInBounds_toArray, List.set_cons_zero, List.set_cons_succ]
            exact hK'
        iterate 2
          apply Flow.asg _ rfl
          · intro K' hK'
            simp only [Act.put, Act.eval, List.setIfInBounds_toArray, List.set_cons_zero, List.set_cons_succ, arr_getD, List.getD_cons_zero, List.getD_cons_succ]
            exact hK'
        refine Flow.done ?_
        go_wp2_with fail
        go_ret
        exact ⟨ret_bool (by rw [Hf.out, Hat.out]), (Bl.refl _).drew⟩
      · have hat := atI_out cs cW cH ((u : Int) - x) ((v : Int) - y) c1
        have Hat := Lib.hid hat
        clear hat hC
        have hcase : (u : Int) - x < 0 ∨ (0 ≤ (u : Int) - x ∧ (cW : Int) ≤ (u : Int) - x) ∨ (0 ≤ (u : Int) - x ∧ (u : Int) - x < cW ∧ (v : Int) - y < 0) ∨ (0 ≤ (u : Int) - x ∧ (u : Int) - x < cW ∧ 0 ≤ (v : Int) - y ∧ (cH : Int) ≤ (v : Int) - y) := by omega
        clear c1
        rcases hcase with d | ⟨d, d'⟩ | ⟨d, d', d''⟩ | ⟨d, d', d'', d'''⟩
        all_goals
          go_enter Tryz.func129, Tryz.ntmps129
          go_wp2_with fail
          refine wp_region_flow [(true, 0), (true, 1), (true, 2), (true, 3), (true, 4), (true, 5), (true, 6), (true, 7)] (fun _ => false) (by kernel_rfl) (by kernel_rfl) (by kernel_rfl) (by kernel_rfl) ?_
          iterate 1
            apply Flow.mv _ rfl
            · intro K' hK'
              simp only [Act.put, Act.eval, List.setIfInBounds_toArray, List.set_cons_zero, List.set_cons_succ, arr_getD, List.getD_cons_zero]
              exact hK'
          iterate 1
            apply Flow.calm2 _ _ rfl rfl
            · intro w' hb' K' hK'
              obtain ⟨hc', hf'⟩ := hb'.rule
              go_simp
              try go_ints
              exact hK'
            · intro K' hK'
              simp only [Act.put, List.setIfInBounds_toArray, List.set_cons_zero, List.set_cons_succ]
              exact hK'
          iterate 1
            apply Flow.calm2 _ _ rfl rfl
            · intro w' hb' K' hK'
              obtain ⟨hc', hf'⟩ := hb'.rule
              go_simp
              try go_ints
              exact hK'
            · intro K' hK'
              simp only [Act.put, List.setIfInBounds_toArray, List.set_cons_zero, List.set_cons_succ]
              exact hK'
          iterate 1
            apply Flow.mv _ rfl
            · intro K' hK'
              simp only [Act.put, Act.eval, List.setIfInBounds_toArray, List.set_cons_zero, List.set_cons_succ, arr_getD, List.getD_cons_zero, List.getD_cons_succ]
              exact hK'
          iterate 1
            apply Flow.calm2 _ _ rfl rfl
            · intro w' hb' K' hK'
              obtain ⟨hc', hf'⟩ := hb'.rule
              go_simp
              try go_ints
              exact hK'
            · intro K' hK'
              simp only [Act.put, List.setIfInBounds_toArray, List.set_cons_zero, List.set_cons_succ]
              exact hK'
          iterate 1
            apply Flow.calm2 _ _ rfl rfl
            · intro w' hb' K' hK'
              obtain ⟨hc', hf'⟩ := hb'.rule
              go_simp
              try go_ints
              exact hK'
            · intro K' hK'
              simp only [Act.put, List.setIfInBounds_toArray, List.set_cons_zero, List.set_cons_succ]
              exact hK'
          iterate 2
            apply Flow.asg _ rfl
            · intro K' hK'
              simp only [Act.put, Act.eval, List.setIfInBounds_toArray, List.set_cons_zero, List.set_cons_succ, arr_getD, List.getD_cons_zero, List.getD_cons_succ]
              exact hK'
          refine Flow.done ?_
          go_wp2_with fail
          go_ret
          exact ⟨ret_bool (by rw [Hf.out, Hat.out]), (Bl.refl _).drew⟩

end Go.Proofs.YtahfkahfaiidgaaGreatDoor


/-! Margins; bedref2.Moved and CutOf. -/
namespace Go.Proofs.YtahfkahfaiidgaaGreatDoor
open Go.RowKit

/-! ### Margins -/
/-! ### bedref2.Moved and CutOf -/
def movedF (bs : List Bool) (W H : Nat) (dx dy : Int) (x y : Nat) : Bool := atI bs W H ((x : Int) - dx) ((y : Int) - dy)
set_option maxRecDepth 100000 in
set_option maxHeartbeats 1000000 in
theorem moved1_any (p q r W H : Nat) (A : Option Addr) (ac : Nat) (bs : List Bool) (dx dy : Int) (x y : Nat) (w : World) (hp : Blk w p 42 #[.int .i64 W, .int .i64 H, .slice A (W * H) ac]) (hq : Blk w q 3 #[.int .i64 dx]) (hr : Blk w r 3 #[.int .i64 dy])
    (hA : Reads w 1 A (W * H) (bs.map .bool)) (hW : W ≤ 4000) (hH : H ≤ 4000) (hdx : -8000 ≤ dx ∧ dx ≤ 8000) (hdy : -8000 ≤ dy ∧ dy ≤ 8000) (hx : x ≤ 4000) (hy : y ≤ 4000) :
    Calls Tryz.prog 108 #[.int .i64 x, .int .i64 y, .pointer (some ⟨p, 0, none⟩), .pointer (some ⟨q, 0, none⟩), .pointer (some ⟨r, 0, none⟩)] w fun e w' => e = .returned (.bool (movedF bs W H dx dy x y)) ∧ Bl w w' := by
  have kp := hp.all3
  have kq := hq.all1
  have kr := hr.all1
  have hat := at_any W H A ac bs ((x : Int) - dx) ((y : Int) - dy) w hA hW hH
  have Hat := Lib.hid hat
  clear hat hA
  go_enter Tryz.func108, Tryz.ntmps108
  go_wp2_with fail
  refine Hat.out.mono ?_
  rintro e w1 ⟨rfl, hb1⟩
  go_wp2_with fail
  go_ret
  exact ⟨rfl, hb1⟩
set_option maxRecDepth 100000 in
set_option maxHeartbeats 1000000 in
theorem movedOf_any (W H NW NH : Nat) (A : Option Addr) (ac : Nat) (bs : List Bool) (dx dy : Int) (w : World) (hA : Reads w 1 A (W * H) (bs.map .bool)) (hW : W ≤ 4000) (hH : H ≤ 4000) (hNW : NW ≤ 4000) (hNH : NH ≤ 4000) (hdx : -8000 ≤ dx ∧ dx ≤ 8000) (hdy : -8000 ≤ dy ∧ dy ≤ 8000) :
    Calls Tryz.prog 75 #[.agg #[.int .i64 W, .int .i64 H, .slice A (W * H) ac], .int .i64 NW, .int .i64 NH, .int .i64 dx, .int .i64 dy] w fun e w' => ∃ R rc, e = .returned (.agg #[.int .i64 NW, .int .i64 NH, .slice R (NW * NH) rc]) ∧ Reads w' 1 R (NW * NH) ((grid NW NH (movedF bs W H dx dy)).map .bool) ∧ (∀ ad, R = some ad → w.heap.size + 4 ≤ ad.block) ∧ Bl w w' := by
  let w2 := ((((w).alloc (.cells #[.int .i64 W, .int .i64 H, .slice A (W * H) ac] 42)).alloc (.cells #[.int .i64 dx] 3)).alloc (.cells #[.int .i64 dy] 3)).alloc (.cells #[.int .i64 0, .int .i64 0, .slice none 0 0] 42)
  have w2b : Bl w w2 := ((((Bl.refl w).alloc _).alloc _).alloc _).alloc _
  have w21 : Blk w2 (w.heap.size) 42 #[.int .i64 W, .int .i64 H, .slice A (W * H) ac] := by
    have h0 := Blk.new (w) 42 #[.int .i64 W, .int .i64 H, .slice A (W * H) ac]
    exact (((h0.alloc _).alloc _).alloc _)
  have w22 : Blk w2 (w.heap.size + 1) 3 #[.int .i64 dx] := by
    have h0 := Blk.new ((w).alloc (.cells #[.int .i64 W, .int .i64 H, .slice A (W * H) ac] 42)) 3 #[.int .i64 dx]
    simp only [World.size_alloc] at h0
    exact ((h0.alloc _).alloc _)
  have w23 : Blk w2 (w.heap.size + 1 + 1) 3 #[.int .i64 dy] := by
    have h0 := Blk.new (((w).alloc (.cells #[.int .i64 W, .int .i64 H, .slice A (W * H) ac] 42)).alloc (.cells #[.int .i64 dx] 3)) 3 #[.int .i64 dy]
    simp only [World.size_alloc] at h0
    exact (h0.alloc _)
  have w24 : Blk w2 (w.heap.size + 1 + 1 + 1) 42 #[.int .i64 0, .int .i64 0, .slice none 0 0] := by
    have h0 := Blk.new ((((w).alloc (.cells #[.int .i64 W, .int .i64 H, .slice A (W * H) ac] 42)).alloc (.cells #[.int .i64 dx] 3)).alloc (.cells #[.int .i64 dy] 3)) 42 #[.int .i64 0, .int .i64 0, .slice none 0 0]
    simp only [World.size_alloc] at h0
    exact h0
  have hbd : NW * NH ≤ 16000000 := by have := Nat.mul_le_mul hNW hNH; omega
  have hP : Paints Tryz.prog 108 #[.pointer (some ⟨w.heap.size, 0, none⟩), .pointer (some ⟨w.heap.size + 1, 0, none⟩), .pointer (some ⟨w.heap.size + 1 + 1, 0, none⟩)] Value.bool w2 NW NH (movedF bs W H dx dy) :=
    ⟨enters Tryz.func108 (by kernel_rfl) rfl, fun wy x y hb hx hy => moved1_any _ _ _ W H A ac bs dx dy x y wy (w21.bl hb) (w22.bl hb) (w23.bl hb) ((hA.bl w2b).bl hb) hW hH hdx hdy (by omega) (by omega)⟩
  have HP := Lib.hid hP
  clear hP hA
  have k1 := w21.all3
  go_enter Tryz.func75, Tryz.ntmps75
  go_wp2_with fail
  refine (Made_any NW NH _ _ _ _ (by omega) (by omega) (by omega) HP.out).mono ?_
  rintro e w6 ⟨r, rfl, hpg, hb6⟩
  have kr3 := (w24.bl hb6).all3
  have hsz3 := w24.lt
  have hle6 := w2b.trans hb6
  obtain ⟨R, rc, rfl, hR, hRn⟩ := hpg
  have hRn' : ∀ ad, R = some ad → w.heap.size + 4 ≤ ad.block := fun ad h => by have := hRn ad h; omega
  have HR := Lib.hid hR; have HRn := Lib.hid hRn'
  clear hR hRn hRn'
  go_wp2_with fail
  refine bodyPost_ret (v := .agg #[.int .i64 NW, .int .i64 NH, .slice R (NW * NH) rc]) (by simp [results, Tryz.results75, go_sem, kr3]) rfl ⟨R, rc, rfl, ?_, HRn.out, ?_⟩
  · exact ((HR.out.store HRn.out (by simp) _).store HRn.out (by simp) _).store HRn.out (by simp) _
  · exact (((hle6.setCell (by simp; omega) _).setCell (by simp; omega) _).setCell (by simp; omega) _)

end Go.Proofs.YtahfkahfaiidgaaGreatDoor


/-! Pasting in the reference; what both functions make. -/
namespace Go.Proofs.YtahfkahfaiidgaaGreatDoor
open Go.RowKit

theorem pasteF_far {bs cs : List Bool} {bW bH cW cH : Nat} {x y : Int} {u v : Nat} (h : pix bs bW u v = false) (h2 : x < -(cW : Int) ∨ (bW : Int) < x ∨ y < -(cH : Int) ∨ (bH : Int) < y) : pasteF bs cs bW bH cW cH x y u v = false :=
  pasteF_apart h (by simp [isApart]; omega)
theorem pasteF_near {bs cs : List Bool} {bW bH cW cH : Nat} {x y : Int} {u v : Nat} (hu : u < bW) (hv : v < bH) (h : pix bs bW u v = false) : pasteF bs cs bW bH cW cH x y u v = atI cs cW cH ((u : Int) - x) ((v : Int) - y) := by
  cases ha : isApart bW bH cW cH x y
  · exact pasteF_at h ha
  · rw [pasteF_apart h ha, atI_out]
    simp [isApart] at ha
    omega

set_option maxRecDepth 100000 in
set_option maxHeartbeats 2000000 in
theorem pasteOf1_any (px pc pb py : Nat) (bW bH cW cH : Nat) (A C : Option Addr) (bc cc : Nat) (bs cs : List Bool) (x y : Int) (u v : Nat) (w : World)
    (h3 : Blk w px 3 #[.int .i64 x]) (h5 : Blk w pc 42 #[.int .i64 cW, .int .i64 cH, .slice C (cW * cH) cc]) (h1 : Blk w pb 42 #[.int .i64 bW, .int .i64 bH, .slice A (bW * bH) bc]) (h4 : Blk w py 3 #[.int .i64 y])
    (hA : Reads w 1 A (bW * bH) (bs.map .bool)) (hC : Reads w 1 C (cW * cH) (cs.map .bool)) (b1 : bW ≤ 4000) (b2 : bH ≤ 4000) (b3 : cW ≤ 4000) (b4 : cH ≤ 4000) (hu : u < bW) (hv : v < bH) :
    Calls Tryz.prog 102 #[.int .i64 u, .int .i64 v, .pointer (some ⟨px, 0, none⟩), .pointer (some ⟨pc, 0, none⟩), .pointer (some ⟨pb, 0, none⟩), .pointer (some ⟨py, 0, none⟩)] w
      fun e w' => e = .returned (.bool (pasteF bs cs bW bH cW cH x y u v)) ∧ Bl w w' := by
  have k1 := h1.all3
  have k3 := h3.all1
  have k4 := h4.all1
  have k5 := h5.all3
  have hat := atI_in bs bW bH u v hu hv
  have hA' := fun (w1 : World) (hb : Bl w w1) => at_any bW bH A bc bs u v w1 (hA.bl hb) b1 b2
  have hC' := fun (w1 : World) (hb : Bl w w1) => at_any cW cH C cc cs ((u : Int) - x) ((v : Int) - y) w1 (hC.bl hb) b3 b4
  have HA := Lib.hid hA'; have HC := Lib.hid hC'
  clear hA hC hA' hC'
  rw [hat] at HA
  clear hat
  cases hp : pix bs bW u v
  case true =>
    have hf := pasteF_pix (cs := cs) (bH := bH) (cW := cW) (cH := cH) (x := x) (y := y) hp
    rw [hp] at HA
    have Hf := Lib.hid hf; have Hp := Lib.hid hp
    clear hf hp
    cases n1 : inB x (-(cW : Int)) bW <;> cases n2 : inB y (-(cH : Int)) bH
    all_goals
      go_enter Tryz.func102, Tryz.ntmps102
      go_wp2_with (first | (go_at_call 33; refine (in_any _ _ _ _).mono ?_; rintro e w' ⟨rfl, rfl⟩) | (go_at_call 103; refine (HA.out _ (Bl.refl _)).mono ?_; rintro e w1 ⟨rfl, hb1⟩))
      go_ret
      exact ⟨ret_bool Hf.out.symm, hb1⟩
  case false =>
    rw [hp] at HA
    cases n1 : inB x (-(cW : Int)) bW
    case false =>
      have hf := pasteF_far (cs := cs) (bH := bH) (cW := cW) (cH := cH) (x := x) (y := y) hp (by have := inB_false.1 n1; omega)
      have Hf := Lib.hid hf; have Hp := Lib.hid hp
      clear hf hp
      go_enter Tryz.func102, Tryz.ntmps102
      go_wp2_with (first | (go_at_call 33; refine (in_any _ _ _ _).mono ?_; rintro e w' ⟨rfl, rfl⟩) | (go_at_call 103; refine (HA.out _ (Bl.refl _)).mono ?_; rintro e w1 ⟨rfl, hb1⟩))
      go_ret
      exact ⟨ret_bool Hf.out.symm, hb1⟩
    case true =>
      cases n2 : inB y (-(cH : Int)) bH
      case false =>
        have hf := pasteF_far (cs := cs) (bH := bH) (cW := cW) (cH := cH) (x := x) (y := y) hp (by have := inB_false.1 n2; omega)
        have Hf := Lib.hid hf; have Hp := Lib.hid hp
        clear hf hp
        go_enter Tryz.func102, Tryz.ntmps102
        go_wp2_with (first | (go_at_call 33; refine (in_any _ _ _ _).mono ?_; rintro e w' ⟨rfl, rfl⟩) | (go_at_call 103; refine (HA.out _ (Bl.refl _)).mono ?_; rintro e w1 ⟨rfl, hb1⟩))
        go_ret
        exact ⟨ret_bool Hf.out.symm, hb1⟩
      case true =>
        have hf := pasteF_near (cs := cs) (cW := cW) (cH := cH) (x := x) (y := y) hu hv hp
        have r1 := inB_true.1 n1
        have r2 := inB_true.1 n2
        have Hf := Lib.hid hf; have Hp := Lib.hid hp
        clear hf hp
        go_enter Tryz.func102, Tryz.ntmps102
        go_wp2_with (first | (go_at_call 33; refine (in_any _ _ _ _).mono ?_; rintro e w' ⟨rfl, rfl⟩))
        refine (HA.out _ (Bl.refl _)).mono ?_
        rintro e w1 ⟨rfl, hb1⟩
        have k1' := (h1.bl hb1).all3
        have k3' := (h3.bl hb1).all1
        have k4' := (h4.bl hb1).all1
        have k5' := (h5.bl hb1).all3
        go_wp2_with fail
        refine (HC.out _ hb1).mono ?_
        rintro e w2 ⟨rfl, hb2⟩
        go_wp2_with fail
        go_ret
        exact ⟨ret_bool (by rw [Hf.out]), hb1.trans hb2⟩

/-! ### page.Paste, bedref2.PasteOf -/
set_option maxRecDepth 100000 in
set_option maxHeartbeats 2000000 in
theorem pasteOf_any (bW bH cW cH : Nat) (bv cv : Value) (bs cs : List Bool) (x y : Int) (w : World) (hA : IsPage w bv bW bH (bs.map .bool)) (hC : IsPage w cv cW cH (cs.map .bool))
    (b1 : bW ≤ 4000) (b2 : bH ≤ 4000) (b3 : cW ≤ 4000) (b4 : cH ≤ 4000) :
    Calls Tryz.prog 67 #[bv, cv, .int .i64 x, .int .i64 y] w fun e w' => ∃ v, e = .returned v ∧ NPage w.heap.size w' v bW bH ((grid bW bH (pasteF bs cs bW bH cW cH x y)).map .bool) ∧ Bl w w' := by
  obtain ⟨A, bc, rfl, hA⟩ := hA
  obtain ⟨C, cc, rfl, hC⟩ := hC
  have hbd : bW * bH ≤ 16000000 := by have := Nat.mul_le_mul b1 b2; omega
  have hr : ∃ r, r = Value.agg #[.int .i64 0, .int .i64 0, .slice none 0 0] := ⟨_, rfl⟩
  let w5 := ((((w.alloc (.cells #[.int .i64 bW, .int .i64 bH, .slice A (bW * bH) bc] 42)).alloc (.cells #[.int .i64 cW, .int .i64 cH, .slice C (cW * cH) cc] 42)).alloc (.cells #[.int .i64 x] 3)).alloc (.cells #[.int .i64 y] 3)).alloc (.cells #[.int .i64 0, .int .i64 0, .slice none 0 0] 42)
  have hb5 : Bl w w5 := (((((Bl.refl w).alloc _).alloc _).alloc _).alloc _).alloc _
  have q1 : Blk w5 w.heap.size 42 #[.int .i64 bW, .int .i64 bH, .slice A (bW * bH) bc] := ((((Blk.new w _ _).alloc _).alloc _).alloc _).alloc _
  have q2 : Blk w5 (w.heap.size + 1) 42 #[.int .i64 cW, .int .i64 cH, .slice C (cW * cH) cc] := by
    have := Blk.new (w.alloc (.cells #[.int .i64 bW, .int .i64 bH, .slice A (bW * bH) bc] 42)) 42 #[.int .i64 cW, .int .i64 cH, .slice C (cW * cH) cc]
    simp only [World.size_alloc] at this
    exact (((this).alloc _).alloc _).alloc _
  have q3 : Blk w5 (w.heap.size + 1 + 1) 3 #[.int .i64 x] := by
    have := Blk.new ((w.alloc (.cells #[.int .i64 bW, .int .i64 bH, .slice A (bW * bH) bc] 42)).alloc (.cells #[.int .i64 cW, .int .i64 cH, .slice C (cW * cH) cc] 42)) 3 #[.int .i64 x]
    simp only [World.size_alloc] at this
    exact ((this).alloc _).alloc _
  have q4 : Blk w5 (w.heap.size + 1 + 1 + 1) 3 #[.int .i64 y] := by
    have := Blk.new (((w.alloc (.cells #[.int .i64 bW, .int .i64 bH, .slice A (bW * bH) bc] 42)).alloc (.cells #[.int .i64 cW, .int .i64 cH, .slice C (cW * cH) cc] 42)).alloc (.cells #[.int .i64 x] 3)) 3 #[.int .i64 y]
    simp only [World.size_alloc] at this
    exact (this).alloc _
  have hP : Paints Tryz.prog 102 #[.pointer (some ⟨w.heap.size + 1 + 1, 0, none⟩), .pointer (some ⟨w.heap.size + 1, 0, none⟩), .pointer (some ⟨w.heap.size, 0, none⟩), .pointer (some ⟨w.heap.size + 1 + 1 + 1, 0, none⟩)] Value.bool w5 bW bH (pasteF bs cs bW bH cW cH x y) :=
    ⟨enters Tryz.func102 (by kernel_rfl) rfl, fun wx u v hb hu hv => pasteOf1_any _ _ _ _ bW bH cW cH A C bc cc bs cs x y u v wx (q3.bl hb) (q2.bl hb) (q1.bl hb) (q4.bl hb) ((hA.bl hb5).bl hb) ((hC.bl hb5).bl hb) b1 b2 b3 b4 hu hv⟩
  have HP := Lib.hid hP
  have kr : Blk w5 (w.heap.size + 1 + 1 + 1 + 1) 42 #[.int .i64 0, .int .i64 0, .slice none 0 0] := by
    have := Blk.new ((((w.alloc (.cells #[.int .i64 bW, .int .i64 bH, .slice A (bW * bH) bc] 42)).alloc (.cells #[.int .i64 cW, .int .i64 cH, .slice C (cW * cH) cc] 42)).alloc (.cells #[.int .i64 x] 3)).alloc (.cells #[.int .i64 y] 3)) 42 #[.int .i64 0, .int .i64 0, .slice none 0 0]
    simpa only [World.size_alloc] using this
  have Hq1 := Lib.hid q1; have Hq2 := Lib.hid q2
  clear hP q1 q2 q3 q4 hr
  go_enter Tryz.func67, Tryz.ntmps67
  go_wp2_with fail
  refine (Made_any bW bH _ _ _ w5 (by omega) (by omega) (by omega) HP.out).mono ?_
  rintro e w6 ⟨r, rfl, hpg, hb6⟩
  have kr' := (kr.bl hb6)
  have kr3 := kr'.all3
  obtain ⟨R, rc, rfl, hR, hRn⟩ := hpg
  go_wp2_with fail
  refine bodyPost_ret (v := .agg #[.int .i64 bW, .int .i64 bH, .slice R (bW * bH) rc]) (by simp [results, Tryz.results67, go_sem, kr3]) rfl ⟨_, rfl, ⟨R, rc, rfl, ?_, fun ad h => Nat.le_trans hb5.le (hRn ad h)⟩, ?_⟩
  · have hsz : w5.heap.size = w.heap.size + 5 := by simp [w5]
    rw [hsz] at hRn
    exact ((hR.store hRn (by simp) _).store hRn (by simp) _).store hRn (by simp) _
  · exact ((((hb5.trans hb6).setCell (by simp; omega) _).setCell (by simp; omega) _).setCell (by simp; omega) _)

end Go.Proofs.YtahfkahfaiidgaaGreatDoor


/-! A region in which two operations that make memory may come up in either order: reads and reckonings first, then both ways. No condition. -/
namespace Go.Proofs.YtahfkahfaiidgaaGreatDoor
open Go.RowKit

section
variable {P : Program} {ops : Array Oper} {Q : Exit → Act → World → Prop} {md : Region.Mode} {cl : Nat → Bool}

def withK (K : Act → World → Prop) (Q : Exit → Act → World → Prop) : Exit → Act → World → Prop
  | .normal, a, w => K a w
  | e, a, w => Q e a w

def listTo : List (Bool × Nat) → Array Bool → Array Bool
  | [], listed => listed
  | (_, i) :: σ, listed => listTo σ (listed.setIfInBounds i true)

theorem Flow.fork {K : Act → World → Prop} {a : Act} {w : World} (h : K a w) : Flow P ops (NoPanic (withK K Q)) cl [] a w := h
end

end Go.Proofs.YtahfkahfaiidgaaGreatDoor


/-! spots, profile, Profile, Score, skews. -/
namespace Go.Proofs.YtahfkahfaiidgaaGreatDoor
open Go.RowKit

/-- A slice of places. -/
def PtReads (w : World) (P : Option Addr) (W : Nat) (l : List Nat) : Prop := 0 < l.length → ∃ g, P = some ⟨g, 0, none⟩ ∧ ∀ j i, l[j]? = some i → w.cell? ⟨g, j * 2, none⟩ = some (.int .i64 ((i % W : Nat) : Int)) ∧ w.cell? ⟨g, j * 2 + 1, none⟩ = some (.int .i64 ((i / W : Nat) : Int))
theorem PtReads.bl {w w' : World} {P : Option Addr} {W : Nat} {l : List Nat} (h : PtReads w P W l) (hb : Bl w w') : PtReads w' P W l := fun h0 =>
  let ⟨g, e, hc⟩ := h h0
  ⟨g, e, fun j i hi => ⟨hb.at (hc j i hi).1, hb.at (hc j i hi).2⟩⟩
end Go.Proofs.YtahfkahfaiidgaaGreatDoor


/-! Profile, Score, skews. -/
namespace Go.Proofs.YtahfkahfaiidgaaGreatDoor
open Go.RowKit

def profI (bs : List Bool) (W H : Nat) (n : Int) (k : Nat) : Int := ((profN bs W H n k : Nat) : Int)
/-- A profile if the error is 0, nothing else. -/
def ProfRes (w : World) (err : Int) (bs : List Bool) (W H : Int) (n : Int) (P : Option Addr) (m : Nat) : Prop :=
  (err = 0 → m = 2 * H.toNat ∧ Reads w 1 P m ((tabL m (profI bs W.toNat H.toNat n)).map (.int .i64))) ∧ (err ≠ 0 → m = 0 ∧ P = none)
theorem ProfRes.bl {w w' : World} {err : Int} {bs : List Bool} {W H n : Int} {P : Option Addr} {m : Nat} (h : ProfRes w err bs W H n P m) (hb : Bl w w') : ProfRes w' err bs W H n P m :=
  ⟨fun e => ⟨(h.1 e).1, (h.1 e).2.bl hb⟩, h.2⟩
end Go.Proofs.YtahfkahfaiidgaaGreatDoor


/-! page.Differ. -/
namespace Go.Proofs.YtahfkahfaiidgaaGreatDoor
open Go.RowKit

theorem differs0 (bs cs : List Bool) (W H i : Nat) (hi : i < W * H) : differs bs cs W H 0 0 i = (bs.getD i false != cs.getD i false) := by
  obtain ⟨h1, h2, h3⟩ := place_parts hi
  unfold differs
  rw [Int.sub_zero, Int.sub_zero, atI_in cs W H _ _ h1 h2, pix_place hi]

end Go.Proofs.YtahfkahfaiidgaaGreatDoor


/-! Rows of texts in memory. -/
namespace Go.Proofs.YtahfkahfaiidgaaGreatDoor
open Go.RowKit

theorem info_str : (Tryz.prog.info? 9).map (fun i => (i.zero, i.size, i.bytes)) = some (some (.string ByteArray.empty), 1, 16) := by kernel_rfl
def strOf (l : List UInt8) : Value := .string ⟨l.toArray⟩
def strCells' (ts : List (List UInt8)) : List Value := ts.map strOf
theorem str_at {w : World} {A : Option Addr} {ts : List (List UInt8)} {i : Nat} {x : List UInt8} (h : Reads w 1 A ts.length (strCells' ts)) (hi : ts[i]? = some x) : ∃ ad, A = some ad ∧ w.cell? (ad.add i) = some (.string ⟨x.toArray⟩) := by
  have hlt := (List.getElem?_eq_some_iff.1 hi).1
  obtain ⟨ad, u, e, hu, hc⟩ := h.at_ hlt
  unfold strCells' at hu
  rw [List.getElem?_map, hi] at hu
  have hu' : strOf x = u := Option.some.inj hu
  subst hu'
  exact ⟨ad, e, hc⟩

end Go.Proofs.YtahfkahfaiidgaaGreatDoor


/-! Rows that a call owns, and rows that lie: cells that are set, rows that grow. -/
namespace Go.Proofs.YtahfkahfaiidgaaGreatDoor
open Go.RowKit

theorem Reads.lt {w : World} {A : Option Addr} {n : Nat} {xs : List Value} (h : Reads w 1 A n xs) : ∀ a, A = some a → 0 < n → a.block < w.heap.size := fun a ha hn => by
  obtain ⟨ad, u, e, -, hc⟩ := h.at_ hn
  rw [ha] at e
  injection e with e
  subst e
  have := World.block_lt_of_cell? w _ hc
  rwa [block_of_add] at this
theorem Reads.far {w : World} {size n : Nat} {A : Option Addr} {xs : List Value} (h : Reads w size A n xs) {p : Addr} (hn : ∀ a, A = some a → 0 < n → a.block ≠ p.block) (u : Value) : Reads (w.setCell p u) size A n xs :=
  ⟨h.1, fun hk => by
    obtain ⟨ad, e, hc⟩ := h.2 hk
    exact ⟨ad, e, fun j x hx => by rw [World.cell?_setCell_other w p _ u (fun e' => by have h1 := hn ad e hk; have h2 := congrArg Addr.block e'; rw [block_of_add] at h2; omega)]; exact hc j x hx⟩⟩
theorem Reads.grown {w w' : World} {n : Nat} {A : Option Addr} {xs : List Value} {row : Option Nat} (h : Reads w 1 A n xs) (hb : w.grownBy w' row) (hn : ∀ a, A = some a → 0 < n → some a.block ≠ row) : Reads w' 1 A n xs :=
  ⟨h.1, fun hk => by
    obtain ⟨ad, e, hc⟩ := h.2 hk
    refine ⟨ad, e, fun j x hx => ?_⟩
    rw [World.cell?_of_block (hb.block _ (by rw [block_of_add]; exact h.lt ad e hk) (by rw [block_of_add]; exact hn ad e hk))]
    exact hc j x hx⟩
theorem own_some {w : World} {base : Nat} {e : TypeId} {size n : Nat} {v : Value} {xs : List Value} (h : w.ownsRow base e size v n xs) (hn : 0 < n) : ∃ g cap, v = .slice (some ⟨g, 0, none⟩) n cap ∧ base ≤ g ∧ n ≤ cap := by
  rcases h.2 with ⟨-, h0⟩ | ⟨g, cap, cur, rfl, hb, -, hc, -⟩
  · omega
  · exact ⟨g, cap, rfl, hb, hc⟩
end Go.Proofs.YtahfkahfaiidgaaGreatDoor


/-! A region whose order is open, walked in one order, by a predicate that every operation keeps (all that lay in a world of one's choosing lies as it did). No condition. -/
namespace Go.Proofs.YtahfkahfaiidgaaGreatDoor
open Go.RowKit

section
variable {P : Program} {ops : Array Oper} {Q : Exit → Act → World → Prop} {md : Region.Mode} {S : World → Prop}

def wpAnyS (P : Program) (md : Region.Mode) (ops : Array Oper) (Q : Exit → Act → World → Prop) (S : World → Prop) : Nat → Array Bool → Act → World → Prop
  | 0, listed, a, w => Region.ready md ops listed = [] ∧ Q .normal a w
  | fuel + 1, listed, a, w =>
    (Region.ready md ops listed = [] → Q .normal a w) ∧
    ∀ i ∈ Region.ready md ops listed, wpOp P ops Q i (fun a' w' => S w' ∧ wpAnyS P md ops Q S fuel (listed.setIfInBounds i true) a' w') a w

theorem wpAny_of_S : ∀ (fuel : Nat) (listed : Array Bool) (a : Act) (w : World), wpAnyS P md ops Q S fuel listed a w → wpAny P md ops Q fuel listed a w
  | 0, _, _, _, h => h
  | fuel + 1, _, _, _, h => ⟨h.1, fun i hi => wpOp_mono (fun a' w' h' => wpAny_of_S fuel _ a' w' h'.2) (h.2 i hi)⟩

theorem wpAnyS_first {i : Nat} {oi : Oper} {v : Value} (hi : ops[i]? = some oi) (hsel : ∀ (j : Nat) (o : Oper) cs b, ops[j]? = some o → o.op ≠ .select cs b)
    (hQ : ∀ c a w, Q (.panic c) (a.put oi.dst v) w → Q (.panic c) a w) :
    ∀ (fuel : Nat) (listed : Array Bool) (a : Act) (w : World), listed.size = ops.size → DownClosed md ops listed →
      (∀ j oj, ops[j]? = some oj → j ≠ i → listed.getD j true = false → (∀ e ∈ oj.after, Region.binds md e = true → e.on ≠ i) → oi.apart ops oj = true) →
      i ∈ Region.ready md ops listed → S w → YieldsIf P ops S oi v a →
      wpAnyS P md ops Q S fuel (listed.setIfInBounds i true) (a.put oi.dst v) w → wpAnyS P md ops Q S (fuel + 1) listed a w := by
  intro fuel
  induction fuel with
  | zero =>
    intro listed a w _ _ _ hr hS hy H
    refine ⟨fun h => (by rw [h] at hr; cases hr), fun j hj => ?_⟩
    by_cases hji : j = i
    · subst hji; exact hy.wpOp hi hS ⟨hS, H⟩
    · have := ready_mono hj hji
      rw [H.1] at this
      cases this
  | succ fuel ih =>
    intro listed a w hsz hdc hfree hr hS hy H
    refine ⟨fun h => (by rw [h] at hr; cases hr), fun j hj => ?_⟩
    by_cases hji : j = i
    · subst hji; exact hy.wpOp hi hS ⟨hS, H⟩
    · have h1 := H.2 j (ready_mono hj hji)
      obtain ⟨hjun, oj, hoj, hall⟩ := mem_ready.1 hj
      have hun0 : listed.getD i false = false := by
        have h0 := (mem_ready.1 hr).1
        rcases Nat.lt_or_ge i listed.size with h' | h'
        · simp [h'] at h0 ⊢; exact h0
        · simp [Array.getElem?_eq_none h']
      have hnot : ∀ e ∈ oj.after, Region.binds md e = true → e.on ≠ i := fun e he hb heq => by
        have h1 := hall e he hb
        rw [heq, hun0] at h1
        cases h1
      have h2 := wpOp_putIf hoj (hfree j oj hoj hji hjun hnot) (fun cs b => hsel i oi cs b hi) (fun cs b => hsel j oj cs b hoj) hQ hy h1
      have hun' : ∀ k, (listed.setIfInBounds j true).getD k true = false → listed.getD k true = false := fun k hun => by
        by_cases hjk : j = k
        · subst hjk; exact hjun
        · rw [getD_set_ne true hjk] at hun; exact hun
      refine wpOp_mono (fun a' w' h3 => ⟨h3.2.1, ih (listed.setIfInBounds j true) a' w' (by simpa using hsz) (hdc.set hj)
        (fun k ok hk hki hun hno => hfree k ok hk hki (hun' k hun) hno) (ready_mono hr (Ne.symm hji)) h3.2.1 h3.1 (by rw [Array.setIfInBounds_comm _ _ hji]; exact h3.2.2)⟩) h2

/-- In one order: 'true': what yields in every world that S holds of; 'false': whatever else. -/
def FlowS (P : Program) (ops : Array Oper) (Q : Exit → Act → World → Prop) (S : World → Prop) : List (Bool × Nat) → Act → World → Prop
  | [], a, w => Q .normal a w
  | (true, i) :: σ, a, w => ∃ o v, ops[i]? = some o ∧ YieldsIf P ops S o v a ∧ FlowS P ops Q S σ (a.put o.dst v) w
  | (false, i) :: σ, a, w => wpOp P ops Q i (fun a' w' => S w' ∧ FlowS P ops Q S σ a' w') a w

def flowOkS (md : Region.Mode) (ops : Array Oper) : List (Bool × Nat) → Array Bool → Bool
  | [], listed => (Region.ready md ops listed).isEmpty
  | (true, i) :: σ, listed => (Region.ready md ops listed).contains i && Region.free md ops listed i && flowOkS md ops σ (listed.setIfInBounds i true)
  | (false, i) :: σ, listed => Region.ready md ops listed == [i] && flowOkS md ops σ (listed.setIfInBounds i true)

theorem flowS_sound (hs : Region.noSelect ops = true) (hQ : ∀ c a d v w, Q (.panic c) (Act.put a d v) w → Q (.panic c) a w) :
    ∀ (σ : List (Bool × Nat)) (fuel : Nat) (listed : Array Bool) (a : Act) (w : World), listed.size = ops.size → DownClosed md ops listed → σ.length ≤ fuel → flowOkS md ops σ listed = true → S w →
      FlowS P ops Q S σ a w → wpAnyS P md ops Q S fuel listed a w := by
  intro σ
  induction σ with
  | nil =>
    intro fuel listed a w _ _ _ hok _ h
    have hr : Region.ready md ops listed = [] := by simpa [flowOkS] using hok
    cases fuel with
    | zero => exact ⟨hr, h⟩
    | succ fuel => exact ⟨fun _ => h, fun i hi => by rw [hr] at hi; cases hi⟩
  | cons s σ ih =>
    obtain ⟨b, i⟩ := s
    intro fuel listed a w hsz hdc hf hok hS h
    cases fuel with
    | zero => simp at hf
    | succ fuel =>
      have hf' : σ.length ≤ fuel := by simpa using hf
      cases b with
      | true =>
        simp only [flowOkS, Bool.and_eq_true] at hok
        obtain ⟨⟨h1, h2⟩, h4⟩ := hok
        obtain ⟨o, v, ho, hy, hfl⟩ := h
        have hir : i ∈ Region.ready md ops listed := by simpa using h1
        exact wpAnyS_first ho (Region.noSelect_spec hs) (fun c a w => hQ c a o.dst v w) fuel listed a w hsz hdc (Region.free_spec ho h2) hir hS hy (ih fuel _ _ _ (by simpa using hsz) (hdc.set hir) hf' h4 hS hfl)
      | false =>
        simp only [flowOkS, Bool.and_eq_true, beq_iff_eq] at hok
        obtain ⟨h1, h4⟩ := hok
        refine ⟨fun h0 => (by rw [h0] at h1; cases h1), fun j hj => ?_⟩
        have hj0 := hj
        rw [h1] at hj
        obtain rfl := List.mem_singleton.1 hj
        exact wpOp_mono (fun a' w' h' => ⟨h'.1, ih fuel _ _ _ (by simpa using hsz) (hdc.set hj0) hf' h4 h'.1 h'.2⟩) h

section
variable {l : List Oper} {B : World}
theorem FlowS.calm {i : Nat} {o : Oper} {σ : List (Bool × Nat)} {a : Act} {w : World} (v : Value) (ho : l[i]? = some o) (hg : o.guard = none)
    (hr : ∀ w', S w' → (execOp a.eval o).run P w' = .ok (.value v) w') (h : FlowS P l.toArray Q S σ (a.put o.dst v) w) : FlowS P l.toArray Q S ((true, i) :: σ) a w :=
  ⟨o, v, by simpa using ho, .inl ⟨by simp [Region.wanted, hg], hr⟩, h⟩
theorem FlowS.calm2 {i : Nat} {o : Oper} {σ : List (Bool × Nat)} {a : Act} {w : World} (v : Value) (a' : Act) (ho : l[i]? = some o) (hg : o.guard = none)
    (hr : ∀ w', S w' → ∀ K : Result Next → Prop, K (.ok (.value v) w') → K ((execOp a.eval o).run P w')) (ha : ∀ K : Act → Prop, K a' → K (a.put o.dst v))
    (h : FlowS P l.toArray Q S σ a' w) : FlowS P l.toArray Q S ((true, i) :: σ) a w :=
  FlowS.calm v ho hg (fun w' hb => hr w' hb (fun r => r = .ok (.value v) w') rfl) (ha (fun x => FlowS P l.toArray Q S σ x w) h)
theorem FlowS.mv {i : Nat} {d : Option Tmp} {x : Operand} {ty : TypeId} {ps : String} {af : Array Edge} {σ : List (Bool × Nat)} {a : Act} {w : World} (a' : Act) (ho : l[i]? = some ⟨d, .move x, ty, ps, af, none⟩)
    (ha : ∀ K : Act → Prop, K a' → K (a.put d (a.eval x))) (h : FlowS P l.toArray Q S σ a' w) : FlowS P l.toArray Q S ((true, i) :: σ) a w :=
  FlowS.calm (a.eval x) ho rfl (fun w' _ => by simp [execOp]) (ha (fun x => FlowS P l.toArray Q S σ x w) h)
theorem FlowS.asg {i : Nat} {d : Option Tmp} {x : Operand} {ty : TypeId} {ps : String} {af : Array Edge} {σ : List (Bool × Nat)} {a : Act} {w : World} (a' : Act) (ho : l[i]? = some ⟨d, .assign x, ty, ps, af, none⟩)
    (ha : ∀ K : Act → Prop, K a' → K (a.put d (a.eval x))) (h : FlowS P l.toArray Q S σ a' w) : FlowS P l.toArray Q S ((true, i) :: σ) a w :=
  FlowS.calm (a.eval x) ho rfl (fun w' _ => by simp [execOp]) (ha (fun x => FlowS P l.toArray Q S σ x w) h)
theorem FlowS.calmG {i : Nat} {o : Oper} {σ : List (Bool × Nat)} {a : Act} {w : World} (v : Value) (ho : l[i]? = some o) (hg : Region.wanted o (yielded l.toArray a.tmps) = true)
    (hr : ∀ w', S w' → (execOp a.eval o).run P w' = .ok (.value v) w') (h : FlowS P l.toArray Q S σ (a.put o.dst v) w) : FlowS P l.toArray Q S ((true, i) :: σ) a w :=
  ⟨o, v, by simpa using ho, .inl ⟨hg, hr⟩, h⟩
theorem FlowS.pass {i : Nat} {o : Oper} {σ : List (Bool × Nat)} {a : Act} {w : World} (ho : l[i]? = some o) (hg : Region.wanted o (yielded l.toArray a.tmps) = false)
    (h : FlowS P l.toArray Q S σ (a.put o.dst undef) w) : FlowS P l.toArray Q S ((true, i) :: σ) a w :=
  ⟨o, undef, by simpa using ho, .inr ⟨hg, rfl⟩, h⟩
theorem FlowS.move {i : Nat} {o : Oper} {σ : List (Bool × Nat)} {a : Act} {w : World} (ho : l[i]? = some o)
    (h : wpList P l.toArray (Exit.then (fun a' w' => S w' ∧ FlowS P l.toArray Q S σ a' w') Q) [o] a w) : FlowS P l.toArray Q S ((false, i) :: σ) a w := by
  have ho' : l.toArray[i]? = some o := by simpa using ho
  simp only [FlowS, wpOp, ho']
  simp only [wpList] at h
  exact h
theorem FlowS.done {a : Act} {w : World} (h : Q .normal a w) : FlowS P ops (NoPanic Q) S [] a w := h
end
end

end Go.Proofs.YtahfkahfaiidgaaGreatDoor


/-! Two rows of ints that grow side by side. No condition. -/
namespace Go.Proofs.YtahfkahfaiidgaaGreatDoor
open Go.RowKit

/-- Two owned rows, in blocks of their own. -/
structure Two (w : World) (B : Nat) (e : TypeId) (vx : Value) (n : Nat) (xs : List Value) (vy : Value) (m : Nat) (ys : List Value) : Prop where
  x : w.ownsRow B e 1 vx n xs
  y : w.ownsRow B e 1 vy m ys
  ne : ∀ k, vx.ownBlock = some k → vy.ownBlock ≠ some k
theorem Two.bl {w w' : World} {B : Nat} {e : TypeId} {vx vy : Value} {n m : Nat} {xs ys : List Value} (h : Two w B e vx n xs vy m ys) (hb : Bl w w') : Two w' B e vx n xs vy m ys := ⟨own_bl h.x hb, own_bl h.y hb, h.ne⟩
theorem Two.swap {w : World} {B : Nat} {e : TypeId} {vx vy : Value} {n m : Nat} {xs ys : List Value} (h : Two w B e vx n xs vy m ys) : Two w B e vy m ys vx n xs := ⟨h.y, h.x, fun k hk e => h.ne k e hk⟩
theorem Two.nil (w : World) (B : Nat) (e : TypeId) : Two w B e (.slice none 0 0) 0 [] (.slice none 0 0) 0 [] := ⟨World.ownsRow_nil _ _ _ _, World.ownsRow_nil _ _ _ _, fun _ h => by cases h⟩

section
variable {P : Program}
/-- An element goes onto the first of two rows. -/
theorem wpList_append_two {w1 wr : World} {ops : Array Oper} {rest : List Oper} {o : Oper} {a : Act} {Q : Exit → Act → World → Prop} (hgd : o.guard = none) (s x : Operand) (t : TypeId)
    (ho : o.op = .call { callee := .builtin .append, args := #[s, x], argTypes := #[t, t] })
    (e : TypeId) (z : Value) (bytes : Nat) (ht : P.underlying t = some (.slice e)) (hi : (P.info? e).map (fun i => (i.zero, i.size, i.bytes)) = some (some z, 1, bytes))
    (hzs : z.cells.size = 1) (B : Nat) (vx : Value) (n : Nat) (xs : List Value) (vy : Value) (m : Nat) (ys : List Value) (hs : a.eval s = vx) (hT : Two wr B e vx n xs vy m ys)
    (g : Nat) (u : Value) (hx : a.eval x = .slice (some ⟨g, 0, none⟩) 1 1) (hg : Blk wr g e #[u]) (h1 : u.oneCell' = true)
    (hb : Bl w1 wr) (hB : w1.heap.size ≤ B) (hBr : B ≤ wr.heap.size) (hbytes : (n + 1) * bytes ≤ 140737488355328) (h63 : n + 1 ≤ maxLen)
    (h : ∀ v' w', Two w' B e v' (n + 1) (xs ++ [u]) vy m ys → Bl w1 w' → wr.heap.size ≤ w'.heap.size → (∀ k, k < wr.heap.size → vx.ownBlock ≠ some k → w'.heap[k]? = wr.heap[k]?) → wpList P ops Q rest (a.put o.dst v') w') : wpList P ops Q (o :: rest) a wr := by
  obtain ⟨i, hi', hz, hsize, hby⟩ := info_parts hi
  refine wpList_plain hgd fun K hK => ?_
  obtain ⟨v', w', hrun, h2, h3, -, h5⟩ := run_append_own_at (P := P) wr B t o.type e i z 1 bytes ht hi' hz hsize hby hzs (by omega) vx n xs hT.x ⟨g, 0, none⟩ 1 1 [u] rfl (fun j y hy => by
    rcases j with _ | j
    · simp at hy
      subst hy
      exact hg.cell 0
    · simp at hy) (fun y hy => by rw [List.mem_singleton.1 hy]; exact h1) h63 hbytes hBr
  have hbl : Bl w1 w' := Below.grown hb h3 (Nat.le_trans hB hBr) (fun k hk => Nat.le_trans hB (hT.x.lt k hk).1)
  have hy : w'.ownsRow B e 1 vy m ys := hT.y.kept h3 (by
    cases hk : vy.ownBlock with
    | none => exact .inl rfl
    | some k => exact .inr fun he => hT.ne k he.symm hk)
  unfold Oper.wp execOp
  simp only [ho, resolve, invoke, builtin, Sem.run_bind, Sem.run_pure, Result.andThen_ok, List.map_toArray, List.map_cons, List.map_nil, hs, hx, hrun]
  refine hK _ _ (h v' w' ⟨h2, hy, fun k hk he => ?_⟩ hbl h3.size fun k hk hne => h3.block k hk (fun h => hne h.symm))
  rcases h5 with h5 | h5
  · exact hT.ne k (h5.symm.trans hk) he
  · obtain rfl : wr.heap.size = k := Option.some.inj (h5.symm.trans hk)
    exact absurd (hT.y.lt _ he).2 (Nat.lt_irrefl _)
end
end Go.Proofs.YtahfkahfaiidgaaGreatDoor
