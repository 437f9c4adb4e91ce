/- page.made and page.Paste: the new page lies in a block of its own, known whole. -/
import Derived.Test.YtahfkahfaiidgaaGreatDoorMClaimForms2
import Derived.Test.YtahfkahfaiidgaaGreatDoorMClaimForms1
import Derived.Laws.BitsLemmas
import Derived.Laws.EntriesVeiled

namespace Go.Proofs.YtahfkahfaiidgaaGreatDoor
open Go.RowKit

/-- A page in new memory, its row no longer than it is. -/
def BPage (B : Nat) (w : World) (v : Value) (W H : Nat) (bs : List Bool) : Prop := ∃ g, v = .agg #[.int .i64 W, .int .i64 H, .slice (some ⟨g, 0, none⟩) (W * H) (W * H)] ∧ Blk w g 4 (bs.map Value.bool).toArray ∧ bs.length = W * H ∧ B ≤ g
theorem BPage.is {B : Nat} {w : World} {v : Value} {W H : Nat} {bs : List Bool} (h : BPage B w v W H bs) : IsPage w v W H (bs.map .bool) := by
  obtain ⟨g, e, hb, hl, -⟩ := h
  exact ⟨_, _, e, by have := hb.reads (W * H) 1 (by simp [hl]); simpa using this⟩
theorem BPage.bl {B : Nat} {w w' : World} {v : Value} {W H : Nat} {bs : List Bool} (h : BPage B w v W H bs) (hb : Bl w w') : BPage B w' v W H bs :=
  let ⟨g, e, hg, hl, hn⟩ := h
  ⟨g, e, hg.bl hb, hl, hn⟩
theorem BPage.mono {B B' : Nat} {w : World} {v : Value} {W H : Nat} {bs : List Bool} (h : BPage B w v W H bs) (hb : B' ≤ B) : BPage B' w v W H bs :=
  let ⟨g, e, hg, hl, hn⟩ := h
  ⟨g, e, hg, hl, Nat.le_trans hb hn⟩
theorem BPage.store {B : Nat} {w : World} {v : Value} {W H : Nat} {bs : List Bool} (h : BPage B w v W H bs) {p : Addr} (hp : p.block < B) (u : Value) : BPage B (w.setCell p u) v W H bs :=
  let ⟨g, e, hg, hl, hn⟩ := h
  ⟨g, e, hg.far (by omega) u, hl, hn⟩

set_option maxRecDepth 100000 in
set_option maxHeartbeats 1000000 in
theorem madeB_any (W H : Nat) (f : Nat → Nat → Bool) (k : FuncId) (cap : Array Value) (w : World) (hW : W ≤ 1048576) (hH : H ≤ 1048576) (hWH : W * H ≤ 1048576) (hk : Paints Tryz.prog k cap Value.bool w W H f) :
    Calls Tryz.prog 128 #[.int .i64 W, .int .i64 H, .func (.func k) #[] cap] w fun e w' => ∃ v, e = .returned v ∧ BPage w.heap.size w' v W H (grid W H f) ∧ Bl w w' := by
  have hmk := run_make_row' (P := Tryz.prog) 40 4 (.bool false) 1 Tryz.underlying40 info_bool rfl .i64 .i64 (W * H) (by omega) (by omega)
  have hent := hk.1
  have eWH : (W : Int) * (H : Int) = ((W * H : Nat) : Int) := by simp
  have h1 : (0:Int) ≤ (W:Int) * (H:Int) := by omega
  have h2 : (W:Int) * (H:Int) ≤ 1048576 := by omega
  rw [← eWH] at hmk
  have EWH := Lib.hid eWH; clear eWH
  have inv0 := Lib.hid (madeInv.start w W H f)
  go_enter Tryz.func128, Tryz.ntmps128
  go_wp2_with fail
  go_loopw [18] (fun v wr => ∃ y : Nat, y ≤ H ∧ v = .int .i64 y ∧ madeInv w W H f wr (y * W)) (fun v _ => H - (intOf v).toNat)
  case atStart => exact ⟨0, Nat.zero_le _, rfl, by simpa using inv0.out⟩
  case round =>
    obtain ⟨y, hy, rfl, hinv⟩ := hrel
    by_cases hlt : y < H
    · go_wp2_with fail
      go_loopw [22] (fun v w2 => ∃ x : Nat, x ≤ W ∧ v = .int .i64 x ∧ madeInv w W H f w2 (y * W + x)) (fun v _ => W - (intOf v).toNat)
      case atStart => exact ⟨0, Nat.zero_le _, rfl, by simpa using hinv⟩
      case round =>
        obtain ⟨x, hx, rfl, hinv2⟩ := hrel
        by_cases hlt2 : x < W
        · obtain ⟨hbl, ⟨cs, hblk, hsz, hcs⟩, hb2, hb0⟩ := hinv2
          have ex : (y * W + x) % W = x := by rw [Nat.mul_comm, Nat.mul_add_mod, Nat.mod_eq_of_lt hlt2]
          have ey : (y * W + x) / W = y := by rw [Nat.mul_comm, Nat.mul_add_div (by omega), Nat.div_eq_of_lt hlt2, Nat.add_zero]
          have hilt := place_lt hlt2 hlt
          obtain ⟨i, hi⟩ : ∃ i, i = y * W + x := ⟨_, rfl⟩
          have e1 : (y : Int) * (W : Int) + (x : Int) = (i : Int) := by rw [hi]; simp
          rw [← hi] at hilt ex ey hcs
          have k2 := hb2.all3
          obtain ⟨vi, ci⟩ : ∃ v, wr.cell? ⟨w.heap.size + 1, i, none⟩ = some v := ⟨cs[i]'(by omega), by rw [hblk.cell]; simp⟩
          have fi := hblk.frozen i
          have hi2 : (i:Int) < (W:Int) * (H:Int) := by have := EWH.out; omega
          have h3 : (0:Int) ≤ (y:Int) * (W:Int) ∧ (y:Int) * (W:Int) ≤ 1048576 := by have := Int.natCast_mul y W; have := EWH.out; omega
          have Hi := Lib.hid hi; have Hcs := Lib.hid hcs; have Hex := Lib.hid ex; have Hey := Lib.hid ey
          clear hi hcs ex ey
          go_wp2_with fail
          refine wp_region_flow [(true, 0), (true, 1), (true, 2), (true, 3), (true, 4), (true, 5), (true, 6), (true, 7), (true, 8), (true, 9), (false, 10), (true, 11), (false, 12)] (fun i => i == 12) (by kernel_rfl) (by kernel_rfl) (by kernel_rfl) (by kernel_rfl) ?_
          iterate 1
            apply Flow.calm2 _ _ rfl rfl
            · intro w' hb' K' hK'
              obtain ⟨hc', hf'⟩ := hb'.rule
              go_simp
              try go_ints
              exact hK'
            · intro K' hK'
              simp only [Act.put, List.setIfInBounds_toArray, List.set_cons_zero, List.set_cons_succ]
              exact hK'
          iterate 1
            apply Flow.calm2 _ _ rfl rfl
            · intro w' hb' K' hK'
              obtain ⟨hc', hf'⟩ := hb'.rule
              go_simp
              try go_ints
              exact hK'
            · intro K' hK'
              simp only [Act.put, List.setIfInBounds_toArray, List.set_cons_zero, List.set_cons_succ]
              exact hK'
          iterate 2
            apply Flow.mv _ rfl
            · intro K' hK'
              simp only [Act.put, Act.eval, List.setIfInBounds_toArray, List.set_cons_zero, List.set_cons_succ, arr_getD, List.getD_cons_zero, List.getD_cons_succ]
              exact hK'
          iterate 1
            apply Flow.calm2 _ _ rfl rfl
            · intro w' hb' K' hK'
              obtain ⟨hc', hf'⟩ := hb'.rule
              go_simp
              try go_ints
              exact hK'
            · intro K' hK'
              simp only [Act.put, List.setIfInBounds_toArray, List.set_cons_zero, List.set_cons_succ]
              exact hK'
          iterate 1
            apply Flow.mv _ rfl
            · intro K' hK'
              simp only [Act.put, Act.eval, List.setIfInBounds_toArray, List.set_cons_zero, List.set_cons_succ, arr_getD, List.getD_cons_zero, List.getD_cons_succ]
              exact hK'
          iterate 1
            apply Flow.calm2 _ _ rfl rfl
            · intro w' hb' K' hK'
              obtain ⟨hc', hf'⟩ := hb'.rule
              go_simp
              try go_ints
              exact hK'
            · intro K' hK'
              simp only [Act.put, List.setIfInBounds_toArray, List.set_cons_zero, List.set_cons_succ]
              exact hK'
          iterate 3
            apply Flow.mv _ rfl
            · intro K' hK'
              simp only [Act.put, Act.eval, List.setIfInBounds_toArray, List.set_cons_zero, List.set_cons_succ, arr_getD, List.getD_cons_zero, List.getD_cons_succ]
              exact hK'
          apply Flow.move rfl
          go_wp2_with fail
          refine (hk.2 _ _ _ (hbl.trans (Bl.refl _).drew) hlt2 hlt).mono ?_
          rintro e w3 ⟨rfl, HB1⟩
          obtain ⟨hc3, hf3⟩ := HB1.rule
          go_wp2_with fail
          refine ⟨fun _ => (by first | exact HB1 | exact Bl.refl _), ?_⟩
          iterate 1
            apply Flow.calm2 _ _ rfl rfl
            · intro w' hb' K' hK'
              obtain ⟨hc', hf'⟩ := hb'.rule
              go_simp
              try go_ints
              exact hK'
            · intro K' hK'
              simp only [Act.put, List.setIfInBounds_toArray, List.set_cons_zero, List.set_cons_succ]
              exact hK'
          refine Flow.tail _ rfl ?_
          go_wp2_with fail
          have hb4 : Bl wr w3 := ((Bl.refl _).drew).trans HB1
          have hst : madeInv w W H f (w3.setCell ⟨w.heap.size + 1, i, none⟩ (Value.bool (f x y))) (i + 1) := by
            refine ⟨(hbl.trans hb4).setCell (by simp) _, ⟨_, (hblk.bl hb4).set_ i _, by simpa using hsz, fun j hj => ?_⟩, (hb2.bl hb4).far (by simp) _, (hb0.bl hb4).far (by simp) _⟩
            by_cases e : i = j
            · subst e
              rw [Hex.out, Hey.out]
              simp [hsz, hilt]
            · rw [Array.getElem?_setIfInBounds_ne e]; exact Hcs.out j (by omega)
          have Hst := Lib.hid hst; clear hst
          exact ⟨⟨x + 1, hlt2, by go_num, by have := Hst.out; rw [Hi.out] at this; simpa [Nat.add_assoc, Hi.out] using this⟩, by simp [intOf]; omega⟩
        · go_wp2_with fail
          exact ⟨⟨y + 1, hlt, by go_num, by rw [Nat.add_mul, Nat.one_mul]; rwa [show x = W by omega] at hinv2⟩, by simp [intOf]; omega⟩
    · have k2 := hinv.2.2.1.all3
      have k0 := hinv.2.2.2.all3
      go_wp2_with fail
      refine bodyPost_ret (v := .agg #[.int .i64 W, .int .i64 H, .slice (some ⟨w.heap.size + 1, 0, none⟩) (W * H) (W * H)]) (by simp [results, Tryz.results128, go_sem, k0]) rfl ?_
      obtain ⟨hbl, ⟨cs, hblk, hsz, hcs⟩, _, _⟩ := hinv
      refine ⟨_, rfl, ⟨_, rfl, ?_, grid_length _ _ _, by simp⟩, ?_⟩
      · have hb' := ((hblk.far (p := ⟨w.heap.size, 0, none⟩) (by simp) (.int .i64 W)).far (p := ⟨w.heap.size, 1, none⟩) (by simp) (.int .i64 H)).far (p := ⟨w.heap.size, 2, none⟩) (by simp) (.slice (some ⟨w.heap.size + 1, 0, none⟩) (W * H) (W * H))
        have hl : cs.toList = (grid W H f).map Value.bool := by
          apply List.ext_getElem?
          intro i
          rcases Nat.lt_or_ge i (W * H) with h | h
          · rw [List.getElem?_map, grid_at W H f i h]
            have := hcs i (by have := Nat.mul_comm W H; rw [show y = H by omega]; omega)
            simpa using this
          · rw [List.getElem?_eq_none (by simpa [hsz] using h), List.getElem?_eq_none (by simpa [grid_length] using h)]
        rw [← hl]
        exact hb'
      · exact ((hbl.setCell (by simp) _).setCell (by simp) _).setCell (by simp) _

set_option maxRecDepth 100000 in
set_option maxHeartbeats 400000 in
theorem blankB_ok (W H : Nat) (w : World) (hs : sizeErr W H = 0) :
    Calls Tryz.prog 94 #[.int .i64 W, .int .i64 H] w fun e w' =>
      ∃ v, e = .returned (.tuple #[v, .int .i64 0]) ∧ BPage w.heap.size w' v W H (List.replicate (W * H) false) ∧ Bl w w' := by
  have hz' := sizeErr_zero hs
  have hWH : (W : Int) * (H : Int) = ((W * H : Nat) : Int) := by simp
  have h1 : (0:Int) ≤ (W:Int) * (H:Int) := by omega
  have h2 : (W:Int) * (H:Int) ≤ 1048576 := by omega
  have hN : W * H ≤ 1048576 := by omega
  have hmk := run_make_row' (P := Tryz.prog) 40 4 (.bool false) 1 Tryz.underlying40 info_bool rfl .i64 .i64 (W * H) (by omega) (by omega)
  rw [← hWH] at hmk
  have hq : (sizeErr W H != 0) = false := by simp [hs]
  have HS := Lib.hid hs; have HWH := Lib.hid hWH
  clear hs hWH
  go_enter Tryz.func94, Tryz.ntmps94
  go_wp2_with (go_at_call 56; refine (checkSize_any _ _ _).mono ?_; rintro e w1 ⟨rfl, rfl⟩)
  have hm : madeCells #[.bool false] (W * H) = Array.replicate (W * H) (.bool false) := by
    apply Array.ext_getElem?
    intro i
    rcases Nat.lt_or_ge i (W * H) with h | h
    · simp [madeCells, h, Nat.mod_one]
    · rw [Array.getElem?_eq_none (by rw [size_madeCells]; exact h), Array.getElem?_eq_none (by simpa using h)]
  rw [hm]
  refine bodyPost_ret (v := .tuple #[.agg #[.int .i64 W, .int .i64 H, .slice (some ⟨w.heap.size + 1, 0, none⟩) (W * H) (W * H)], .int .i64 0]) (by simp [results, Tryz.results94, go_sem]) rfl ⟨_, rfl, ⟨_, rfl, ?_, by simp, by simp⟩, ?_⟩
  · have hb := Blk.new (w.alloc (.cells #[.int .i64 W, .int .i64 H, .slice (some ⟨w.heap.size + 1, 0, none⟩) (W * H) (W * H)] 42)) 4 (Array.replicate (W * H) (.bool false))
    simpa using hb
  · repeat' (first | exact Bl.refl _ | refine Bl.drew ?_ | refine Bl.setCell ?_ (by simp) _ | refine Bl.alloc ?_ _)

set_option maxRecDepth 100000 in
set_option maxHeartbeats 2000000 in
theorem pasteB_any (bW bH cW cH : Nat) (bv cv : Value) (bs cs : List Bool) (x y : Int) (w : World) (hA : IsPage w bv bW bH (bs.map .bool)) (hC : IsPage w cv cW cH (cs.map .bool))
    (e1 : sizeErr bW bH = 0) (e2 : sizeErr cW cH = 0) (_hx : -9223372036854775808 ≤ x ∧ x ≤ 9223372036854775807) (_hy : -9223372036854775808 ≤ y ∧ y ≤ 9223372036854775807) :
    Calls Tryz.prog 95 #[bv, cv, .int .i64 x, .int .i64 y] w fun e w' => ∃ v, e = .returned (.tuple #[v, .int .i64 0]) ∧ BPage w.heap.size w' v bW bH (grid bW bH (pasteF bs cs bW bH cW cH x y)) ∧ Bl w w' := by
  obtain ⟨A, bc, rfl, hA⟩ := hA
  obtain ⟨C, cc, rfl, hC⟩ := hC
  have z1 := sizeErr_zero e1
  have z2 := sizeErr_zero e2
  have p1 : pageErr bW bH (bW * bH) = 0 := by unfold pageErr; rw [if_pos e1, if_pos (by simp)]
  have p2 : pageErr cW cH (cW * cH) = 0 := by unfold pageErr; rw [if_pos e2, if_pos (by simp)]
  have hbd : bW * bH ≤ 1048576 := by have := Int.natCast_mul bW bH; omega
  have ub1 : 1 ≤ bW ∧ bW ≤ 4000 := by omega
  have ub2 : 1 ≤ bH ∧ bH ≤ 4000 := by omega
  have uc1 : 1 ≤ cW ∧ cW ≤ 4000 := by omega
  have uc2 : 1 ≤ cH ∧ cH ≤ 4000 := by omega
  have E1 := Lib.hid e1; have E2 := Lib.hid e2; have P1 := Lib.hid p1; have P2 := Lib.hid p2
  clear e1 e2 z1 z2
  let w6 := ((((((w).alloc (.cells #[.int .i64 bW, .int .i64 bH, .slice A (bW * bH) bc] 42)).alloc (.cells #[.int .i64 cW, .int .i64 cH, .slice C (cW * cH) cc] 42)).alloc (.cells #[.int .i64 x] 3)).alloc (.cells #[.int .i64 y] 3)).alloc (.cells #[.int .i64 0, .int .i64 0, .slice none 0 0] 42)).alloc (.cells #[.int .i64 bW, .int .i64 bH, .slice A (bW * bH) bc, .int .i64 cW, .int .i64 cH, .slice C (cW * cH) cc] 42)
  have w6b : Bl w w6 := ((((((Bl.refl w).alloc _).alloc _).alloc _).alloc _).alloc _).alloc _
  have w61 : Blk w6 (w.heap.size) 42 #[.int .i64 bW, .int .i64 bH, .slice A (bW * bH) bc] := by
    have h0 := Blk.new (w) 42 #[.int .i64 bW, .int .i64 bH, .slice A (bW * bH) bc]
    exact (((((h0.alloc _).alloc _).alloc _).alloc _).alloc _)
  have w62 : Blk w6 (w.heap.size + 1) 42 #[.int .i64 cW, .int .i64 cH, .slice C (cW * cH) cc] := by
    have h0 := Blk.new ((w).alloc (.cells #[.int .i64 bW, .int .i64 bH, .slice A (bW * bH) bc] 42)) 42 #[.int .i64 cW, .int .i64 cH, .slice C (cW * cH) cc]
    simp only [World.size_alloc] at h0
    exact ((((h0.alloc _).alloc _).alloc _).alloc _)
  have w63 : Blk w6 (w.heap.size + 1 + 1) 3 #[.int .i64 x] := by
    have h0 := Blk.new (((w).alloc (.cells #[.int .i64 bW, .int .i64 bH, .slice A (bW * bH) bc] 42)).alloc (.cells #[.int .i64 cW, .int .i64 cH, .slice C (cW * cH) cc] 42)) 3 #[.int .i64 x]
    simp only [World.size_alloc] at h0
    exact (((h0.alloc _).alloc _).alloc _)
  have w64 : Blk w6 (w.heap.size + 1 + 1 + 1) 3 #[.int .i64 y] := by
    have h0 := Blk.new ((((w).alloc (.cells #[.int .i64 bW, .int .i64 bH, .slice A (bW * bH) bc] 42)).alloc (.cells #[.int .i64 cW, .int .i64 cH, .slice C (cW * cH) cc] 42)).alloc (.cells #[.int .i64 x] 3)) 3 #[.int .i64 y]
    simp only [World.size_alloc] at h0
    exact ((h0.alloc _).alloc _)
  have w65 : Blk w6 (w.heap.size + 1 + 1 + 1 + 1) 42 #[.int .i64 0, .int .i64 0, .slice none 0 0] := by
    have h0 := Blk.new (((((w).alloc (.cells #[.int .i64 bW, .int .i64 bH, .slice A (bW * bH) bc] 42)).alloc (.cells #[.int .i64 cW, .int .i64 cH, .slice C (cW * cH) cc] 42)).alloc (.cells #[.int .i64 x] 3)).alloc (.cells #[.int .i64 y] 3)) 42 #[.int .i64 0, .int .i64 0, .slice none 0 0]
    simp only [World.size_alloc] at h0
    exact (h0.alloc _)
  have w66 : Blk w6 (w.heap.size + 1 + 1 + 1 + 1 + 1) 42 #[.int .i64 bW, .int .i64 bH, .slice A (bW * bH) bc, .int .i64 cW, .int .i64 cH, .slice C (cW * cH) cc] := by
    have h0 := Blk.new ((((((w).alloc (.cells #[.int .i64 bW, .int .i64 bH, .slice A (bW * bH) bc] 42)).alloc (.cells #[.int .i64 cW, .int .i64 cH, .slice C (cW * cH) cc] 42)).alloc (.cells #[.int .i64 x] 3)).alloc (.cells #[.int .i64 y] 3)).alloc (.cells #[.int .i64 0, .int .i64 0, .slice none 0 0] 42)) 42 #[.int .i64 bW, .int .i64 bH, .slice A (bW * bH) bc, .int .i64 cW, .int .i64 cH, .slice C (cW * cH) cc]
    simp only [World.size_alloc] at h0
    exact h0
  go_enter Tryz.func95, Tryz.ntmps95
  go_wp2_with fail
  refine wp_loop_rounds 3 ?_
  rw [rounds_succ]
  go_wp2_with fail
  refine (checkBits_any _ _ _ _ _ _).mono ?_
  rintro e w7 ⟨rfl, hb7⟩
  have hb67 : Bl w6 w7 := ((Bl.refl w6).alloc _).trans hb7
  have a6 := (w66.bl hb67).all6
  have l7 : w.heap.size + 5 < w7.heap.size := by have := (w66.bl hb67).lt; simpa using this
  go_wp2_with fail
  rw [rounds_succ]
  go_wp2_with fail
  refine (checkBits_any _ _ _ _ _ _).mono ?_
  rintro e w8 ⟨rfl, hb8⟩
  have hb68 : Bl w6 w8 := (hb67.alloc _).trans hb8
  have q1 := (w61.bl hb68).all3
  have q2 := (w62.bl hb68).all3
  have q3 := (w63.bl hb68).all1
  have q4 := (w64.bl hb68).all1
  have q5 := w65.bl hb68
  have hr := q5.all3
  have l1 := (w61.bl hb68).lt
  have l2 := (w62.bl hb68).lt
  have l3 := (w63.bl hb68).lt
  have l4 := (w64.bl hb68).lt
  have l5 := q5.lt
  have hPA := (hA.bl (w6b.trans hb68))
  have hPC := (hC.bl (w6b.trans hb68))
  have hb8w := w6b.trans hb68
  generalize hB1 : w61.bl hb68 = B1
  clear hB1 a6 l7
  have B2 := w62.bl hb68
  have B3 := w63.bl hb68
  have B4 := w64.bl hb68
  go_wp2_with fail
  rw [rounds_succ]
  have tok : True := trivial
  have hP := fun (ap : Bool) (hap : ap = isApart bW bH cW cH x y) => (⟨enters Tryz.func129 (by kernel_rfl) rfl, fun wx u v hb hu hv => by
    subst hap
    have hb' : Bl w8 wx := ((Bl.refl w8).alloc _).trans hb
    have q2 : Blk (w8.alloc (.cells #[.bool (isApart bW bH cW cH x y)] 4)) w8.heap.size 4 #[.bool (isApart bW bH cW cH x y)] := Blk.new _ _ _
    exact paste1_any _ _ _ _ _ bW bH cW cH A C bc cc bs cs x y u v wx (B1.bl hb') (q2.bl hb) (B3.bl hb') (B4.bl hb') (B2.bl hb') (hPA.bl hb') (hPC.bl hb') ub1.2 ub2.2 uc1.2 uc2.2 hu hv⟩ :
    Paints Tryz.prog 129 #[.pointer (some ⟨w.heap.size, 0, none⟩), .pointer (some ⟨w8.heap.size, 0, none⟩), .pointer (some ⟨w.heap.size + 1 + 1, 0, none⟩), .pointer (some ⟨w.heap.size + 1 + 1 + 1, 0, none⟩), .pointer (some ⟨w.heap.size + 1, 0, none⟩)] Value.bool (w8.alloc (.cells #[.bool ap] 4)) bW bH (pasteF bs cs bW bH cW cH x y))
  have HP := Lib.hid hP; clear hP
  have HPA := Lib.hid hPA; have HPC := Lib.hid hPC
  clear hPA hPC B1 B2 B3 B4
  go_wp2_with fail
  all_goals
    refine (madeB_any bW bH _ _ _ _ (by omega) (by omega) hbd (HP.out _ (by first | (unfold isApart; rfl) | (simp [isApart]; omega)))).mono ?_
    rintro e w9 ⟨r, rfl, hpg, hb9⟩
    have kr := ((q5.alloc _).bl hb9).all3
    obtain ⟨R, rfl, hR, hRl, hRn⟩ := hpg
    have hb8' := hb8w.le
    have hRn' : w.heap.size + 5 ≤ R := by simp at hRn; omega
    have HR := Lib.hid hR; have HRn := Lib.hid hRn'; have HRl := Lib.hid hRl
    clear hR hRn hRn' hRl
    go_wp2_with fail
    refine bodyPost_ret (v := .tuple #[.agg #[.int .i64 bW, .int .i64 bH, .slice (some ⟨R, 0, none⟩) (bW * bH) (bW * bH)], .int .i64 0]) (by simp [results, Tryz.results95, go_sem, kr]) rfl ⟨_, rfl, ⟨R, rfl, ?_, HRl.out, by have := HRn.out; omega⟩, ?_⟩
    · have := HRn.out
      exact ((HR.out.far (by simp; omega) _).far (by simp; omega) _).far (by simp; omega) _
    · exact ((((hb8w.alloc _).trans hb9).setCell (by simp; omega) _).setCell (by simp; omega) _).setCell (by simp; omega) _
end Go.Proofs.YtahfkahfaiidgaaGreatDoor
