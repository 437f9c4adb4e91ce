/- A box by value is opened. No condition. -/
import Derived.Test.YthobmednnocklaaGreatDoorMClaimLinesAreRead2
import Derived.Test.YthobmednnocklaaGreatDoorMClaimLinesAreRead1
import Derived.Test.YthobmednnocklaaGreatDoorMClaimLinesAreRead0
import Derived.Laws.BitsLemmas
import Derived.Laws.EntriesVeiled
import Derived.Lib.Split
import Derived.Lib.CountLaws
import Derived.Lib.IndexMore
import Derived.WalkKit
import Derived.Ground.NamesProg
import Derived.Shelf.Lay
import Derived.Shelf.Strings.SlTrimAscii
import Derived.ProofKit
import Derived.OpenShut
import Derived.Lib.SmallJoins

namespace Go.Proofs.YthobmednnocklaaGreatDoor
open Go.RowKit

/-- A page in new memory, its row no longer than it is. -/
def BPage (B : Nat) (w : World) (v : Value) (W H : Nat) (bs : List Bool) : Prop := ∃ g, v = .agg #[.int .i64 W, .int .i64 H, .slice (some ⟨g, 0, none⟩) (W * H) (W * H)] ∧ Blk w g 4 (bs.map Value.bool).toArray ∧ bs.length = W * H ∧ B ≤ g
theorem BPage.is {B : Nat} {w : World} {v : Value} {W H : Nat} {bs : List Bool} (h : BPage B w v W H bs) : IsPage w v W H (bs.map .bool) := by
 obtain ⟨g, e, hb, hl, -⟩ := h
 exact ⟨_, _, e, by have := hb.reads (W * H) 1 (by simp [hl]); simpa using this⟩
theorem BPage.bl {B : Nat} {w w' : World} {v : Value} {W H : Nat} {bs : List Bool} (h : BPage B w v W H bs) (hb : Bl w w') : BPage B w' v W H bs :=
 let ⟨g, e, hg, hl, hn⟩ := h
 ⟨g, e, hg.bl hb, hl, hn⟩
theorem BPage.mono {B B' : Nat} {w : World} {v : Value} {W H : Nat} {bs : List Bool} (h : BPage B w v W H bs) (hb : B' ≤ B) : BPage B' w v W H bs :=
 let ⟨g, e, hg, hl, hn⟩ := h
 ⟨g, e, hg, hl, Nat.le_trans hb hn⟩
theorem BPage.store {B : Nat} {w : World} {v : Value} {W H : Nat} {bs : List Bool} (h : BPage B w v W H bs) {p : Addr} (hp : p.block < B) (u : Value) : BPage B (w.setCell p u) v W H bs :=
 let ⟨g, e, hg, hl, hn⟩ := h
 ⟨g, e, hg.far (by omega) u, hl, hn⟩

set_option maxRecDepth 100000 in
set_option maxHeartbeats 1000000 in
theorem madeB_any (W H : Nat) (f : Nat → Nat → Bool) (k : FuncId) (cap : Array Value) (w : World) (hW : W ≤ 1048576) (hH : H ≤ 1048576) (hWH : W * H ≤ 1048576) (hk : Paints Tryz.prog k cap Value.bool w W H f) :
 Calls Tryz.prog 133 #[.int .i64 W, .int .i64 H, .func (.func k) #[] cap] w fun e w' => ∃ v, e = .returned v ∧ BPage w.heap.size w' v W H (grid W H f) ∧ Bl w w' := by
 have hmk := run_make_row' (P := Tryz.prog) 22 4 (.bool false) 1 Tryz.underlying22 info_bool rfl .i64 .i64 (W * H) (by omega) (by omega)
 have hent := hk.1
 have eWH : (W : Int) * (H : Int) = ((W * H : Nat) : Int) := by simp
 have h1 : (0:Int) ≤ (W:Int) * (H:Int) := by omega
 have h2 : (W:Int) * (H:Int) ≤ 1048576 := by omega
 rw [← eWH] at hmk
 have EWH := Lib.hid eWH; clear eWH
 have inv0 := Lib.hid (madeInv.start w W H f)
 go_enter Tryz.func133, Tryz.ntmps133
 go_wp2_with fail
 go_loopw [18] (fun v wr => ∃ y : Nat, y ≤ H ∧ v = .int .i64 y ∧ madeInv w W H f wr (y * W)) (fun v _ => H - (intOf v).toNat)
 case atStart => exact ⟨0, Nat.zero_le _, rfl, by simpa using inv0.out⟩
 case round =>
  obtain ⟨y, hy, rfl, hinv⟩ := hrel
  by_cases hlt : y < H
  · go_wp2_with fail
    go_loopw [22] (fun v w2 => ∃ x : Nat, x ≤ W ∧ v = .int .i64 x ∧ madeInv w W H f w2 (y * W + x)) (fun v _ => W - (intOf v).toNat)
    case atStart => exact ⟨0, Nat.zero_le _, rfl, by simpa using hinv⟩
    case round =>
     obtain ⟨x, hx, rfl, hinv2⟩ := hrel
     by_cases hlt2 : x < W
     · obtain ⟨hbl, ⟨cs, hblk, hsz, hcs⟩, hb2, hb0⟩ := hinv2
       have ex : (y * W + x) % W = x := by rw [Nat.mul_comm, Nat.mul_add_mod, Nat.mod_eq_of_lt hlt2]
       have ey : (y * W + x) / W = y := by rw [Nat.mul_comm, Nat.mul_add_div (by omega), Nat.div_eq_of_lt hlt2, Nat.add_zero]
       have hilt := place_lt hlt2 hlt
       obtain ⟨i, hi⟩ : ∃ i, i = y * W + x := ⟨_, rfl⟩
       have e1 : (y : Int) * (W : Int) + (x : Int) = (i : Int) := by rw [hi]; simp
       rw [← hi] at hilt ex ey hcs
       have k2 := hb2.all3
       obtain ⟨vi, ci⟩ : ∃ v, wr.cell? ⟨w.heap.size + 1, i, none⟩ = some v := ⟨cs[i]'(by omega), by rw [hblk.cell]; simp⟩
       have fi := hblk.frozen i
       have hi2 : (i:Int) < (W:Int) * (H:Int) := by have := EWH.out; omega
       have h3 : (0:Int) ≤ (y:Int) * (W:Int) ∧ (y:Int) * (W:Int) ≤ 1048576 := by have := Int.natCast_mul y W; have := EWH.out; omega
       have Hi := Lib.hid hi; have Hcs := Lib.hid hcs; have Hex := Lib.hid ex; have Hey := Lib.hid ey
       clear hi hcs ex ey
       go_wp2_with fail
       refine wp_region_flow [(true, 0), (true, 1), (true, 2), (true, 3), (true, 4), (true, 5), (true, 6), (true, 7), (true, 8), (true, 9), (false, 10), (true, 11), (false, 12)] (fun i => i == 12) (by kernel_rfl) (by kernel_rfl) (by kernel_rfl) (by kernel_rfl) ?_
       iterate 2
        apply Flow.calm2 _ _ rfl rfl
        · intro w' hb' K' hK'
          obtain ⟨hc', hf'⟩ := hb'.rule
          go_simp
          try go_ints
          exact hK'
        · intro K' hK'
          simp only [sqA]
          exact hK'
       iterate 2
        apply Flow.mv _ rfl
        · intro K' hK'
          simp only [sqA, Act.eval, arr_getD, List.getD_cons_zero, List.getD_cons_succ]
          exact hK'
       iterate 1
        apply Flow.calm2 _ _ rfl rfl
        · intro w' hb' K' hK'
          obtain ⟨hc', hf'⟩ := hb'.rule
          go_simp
          try go_ints
          exact hK'
        · intro K' hK'
          simp only [sqA]
          exact hK'
       iterate 1
        apply Flow.mv _ rfl
        · intro K' hK'
          simp only [sqA, Act.eval, arr_getD, List.getD_cons_zero, List.getD_cons_succ]
          exact hK'
       iterate 1
        apply Flow.calm2 _ _ rfl rfl
        · intro w' hb' K' hK'
          obtain ⟨hc', hf'⟩ := hb'.rule
          go_simp
          try go_ints
          exact hK'
        · intro K' hK'
          simp only [sqA]
          exact hK'
       iterate 3
        apply Flow.mv _ rfl
        · intro K' hK'
          simp only [sqA, Act.eval, arr_getD, List.getD_cons_zero, List.getD_cons_succ]
          exact hK'
       apply Flow.move rfl
       go_wp2_with fail
       refine (hk.2 _ _ _ (hbl.trans (Bl.refl _).drew) hlt2 hlt).mono ?_
       rintro e w3 ⟨rfl, HB1⟩
       obtain ⟨hc3, hf3⟩ := HB1.rule
       go_wp2_with fail
       refine ⟨fun _ => (by first | exact HB1 | exact Bl.refl _), ?_⟩
       iterate 1
        apply Flow.calm2 _ _ rfl rfl
        · intro w' hb' K' hK'
          obtain ⟨hc', hf'⟩ := hb'.rule
          go_simp
          try go_ints
          exact hK'
        · intro K' hK'
          simp only [sqA]
          exact hK'
       refine Flow.tail _ rfl ?_
       go_wp2_with fail
       have hb4 : Bl wr w3 := ((Bl.refl _).drew).trans HB1
       have hst : madeInv w W H f (w3.setCell ⟨w.heap.size + 1, i, none⟩ (Value.bool (f x y))) (i + 1) := by
        refine ⟨(hbl.trans hb4).setCell (by simp) _, ⟨_, (hblk.bl hb4).set_ i _, by simpa using hsz, fun j hj => ?_⟩, (hb2.bl hb4).far (by simp) _, (hb0.bl hb4).far (by simp) _⟩
        by_cases e : i = j
        · subst e
          rw [Hex.out, Hey.out]
          simp [hsz, hilt]
        · rw [Array.getElem?_setIfInBounds_ne e]; exact Hcs.out j (by omega)
       have Hst := Lib.hid hst; clear hst
       exact ⟨⟨x + 1, hlt2, by go_num, by have := Hst.out; rw [Hi.out] at this; simpa [Nat.add_assoc, Hi.out] using this⟩, by simp [intOf]; omega⟩
     · go_wp2_with fail
       exact ⟨⟨y + 1, hlt, by go_num, by rw [Nat.add_mul, Nat.one_mul]; rwa [show x = W by omega] at hinv2⟩, by simp [intOf]; omega⟩
  · have k2 := hinv.2.2.1.all3
    have k0 := hinv.2.2.2.all3
    go_wp2_with fail
    refine bodyPost_ret (v := .agg #[.int .i64 W, .int .i64 H, .slice (some ⟨w.heap.size + 1, 0, none⟩) (W * H) (W * H)]) (by simp [results, Tryz.results133, go_sem, k0]) rfl ?_
    obtain ⟨hbl, ⟨cs, hblk, hsz, hcs⟩, _, _⟩ := hinv
    refine ⟨_, rfl, ⟨_, rfl, ?_, grid_length _ _ _, by simp⟩, ?_⟩
    · have hb' := ((hblk.far (p := ⟨w.heap.size, 0, none⟩) (by simp) (.int .i64 W)).far (p := ⟨w.heap.size, 1, none⟩) (by simp) (.int .i64 H)).far (p := ⟨w.heap.size, 2, none⟩) (by simp) (.slice (some ⟨w.heap.size + 1, 0, none⟩) (W * H) (W * H))
      have hl : cs.toList = (grid W H f).map Value.bool := by
       apply List.ext_getElem?
       intro i
       rcases Nat.lt_or_ge i (W * H) with h | h
       · rw [List.getElem?_map, grid_at W H f i h]
         have := hcs i (by have := Nat.mul_comm W H; rw [show y = H by omega]; omega)
         simpa using this
       · rw [List.getElem?_eq_none (by simpa [hsz] using h), List.getElem?_eq_none (by simpa [grid_length] using h)]
      rw [← hl]
      exact hb'
    · exact ((hbl.setCell (by simp) _).setCell (by simp) _).setCell (by simp) _

set_option maxRecDepth 100000 in
set_option maxHeartbeats 400000 in
theorem blankB_ok (W H : Nat) (w : World) (hs : sizeErr W H = 0) :
 Calls Tryz.prog 86 #[.int .i64 W, .int .i64 H] w fun e w' =>
  ∃ v, e = .returned (.tuple #[v, .int .i64 0]) ∧ BPage w.heap.size w' v W H (List.replicate (W * H) false) ∧ Bl w w' := by
 have hz' := sizeErr_zero hs
 have hWH : (W : Int) * (H : Int) = ((W * H : Nat) : Int) := by simp
 have h1 : (0:Int) ≤ (W:Int) * (H:Int) := by omega
 have h2 : (W:Int) * (H:Int) ≤ 1048576 := by omega
 have hN : W * H ≤ 1048576 := by omega
 have hmk := run_make_row' (P := Tryz.prog) 22 4 (.bool false) 1 Tryz.underlying22 info_bool rfl .i64 .i64 (W * H) (by omega) (by omega)
 rw [← hWH] at hmk
 have hq : (sizeErr W H != 0) = false := by simp [hs]
 have HS := Lib.hid hs; have HWH := Lib.hid hWH
 clear hs hWH
 go_enter Tryz.func86, Tryz.ntmps86
 go_wp2_with (go_at_call 117; refine (checkSize_any _ _ _).mono ?_; rintro e w1 ⟨rfl, rfl⟩)
 have hm : madeCells #[.bool false] (W * H) = Array.replicate (W * H) (.bool false) := by
  apply Array.ext_getElem?
  intro i
  rcases Nat.lt_or_ge i (W * H) with h | h
  · simp [madeCells, h, Nat.mod_one]
  · rw [Array.getElem?_eq_none (by rw [size_madeCells]; exact h), Array.getElem?_eq_none (by simpa using h)]
 rw [hm]
 refine bodyPost_ret (v := .tuple #[.agg #[.int .i64 W, .int .i64 H, .slice (some ⟨w.heap.size + 1, 0, none⟩) (W * H) (W * H)], .int .i64 0]) (by simp [results, Tryz.results86, go_sem]) rfl ⟨_, rfl, ⟨_, rfl, ?_, by simp, by simp⟩, ?_⟩
 · have hb := Blk.new (w.alloc (.cells #[.int .i64 W, .int .i64 H, .slice (some ⟨w.heap.size + 1, 0, none⟩) (W * H) (W * H)] 24)) 4 (Array.replicate (W * H) (.bool false))
   simpa using hb
 · repeat' (first | exact Bl.refl _ | refine Bl.drew ?_ | refine Bl.setCell ?_ (by simp) _ | refine Bl.alloc ?_ _)

set_option maxRecDepth 100000 in
set_option maxHeartbeats 2000000 in
theorem pasteB_any (bW bH cW cH : Nat) (bv cv : Value) (bs cs : List Bool) (x y : Int) (w : World) (hA : IsPage w bv bW bH (bs.map .bool)) (hC : IsPage w cv cW cH (cs.map .bool))
 (e1 : sizeErr bW bH = 0) (e2 : sizeErr cW cH = 0) (_hx : -9223372036854775808 ≤ x ∧ x ≤ 9223372036854775807) (_hy : -9223372036854775808 ≤ y ∧ y ≤ 9223372036854775807) :
 Calls Tryz.prog 68 #[bv, cv, .int .i64 x, .int .i64 y] w fun e w' => ∃ v, e = .returned (.tuple #[v, .int .i64 0]) ∧ BPage w.heap.size w' v bW bH (grid bW bH (pasteF bs cs bW bH cW cH x y)) ∧ Bl w w' := by
 obtain ⟨A, bc, rfl, hA⟩ := hA
 obtain ⟨C, cc, rfl, hC⟩ := hC
 have z1 := sizeErr_zero e1
 have z2 := sizeErr_zero e2
 have p1 : pageErr bW bH (bW * bH) = 0 := by unfold pageErr; rw [if_pos e1, if_pos (by simp)]
 have p2 : pageErr cW cH (cW * cH) = 0 := by unfold pageErr; rw [if_pos e2, if_pos (by simp)]
 have hbd : bW * bH ≤ 1048576 := by have := Int.natCast_mul bW bH; omega
 have ub1 : 1 ≤ bW ∧ bW ≤ 4000 := by omega
 have ub2 : 1 ≤ bH ∧ bH ≤ 4000 := by omega
 have uc1 : 1 ≤ cW ∧ cW ≤ 4000 := by omega
 have uc2 : 1 ≤ cH ∧ cH ≤ 4000 := by omega
 have E1 := Lib.hid e1; have E2 := Lib.hid e2; have P1 := Lib.hid p1; have P2 := Lib.hid p2
 clear e1 e2 z1 z2
 let w6 := ((((((w).alloc (.cells #[.int .i64 bW, .int .i64 bH, .slice A (bW * bH) bc] 24)).alloc (.cells #[.int .i64 cW, .int .i64 cH, .slice C (cW * cH) cc] 24)).alloc (.cells #[.int .i64 x] 3)).alloc (.cells #[.int .i64 y] 3)).alloc (.cells #[.int .i64 0, .int .i64 0, .slice none 0 0] 24)).alloc (.cells #[.int .i64 bW, .int .i64 bH, .slice A (bW * bH) bc, .int .i64 cW, .int .i64 cH, .slice C (cW * cH) cc] 24)
 have w6b : Bl w w6 := ((((((Bl.refl w).alloc _).alloc _).alloc _).alloc _).alloc _).alloc _
 have w61 : Blk w6 (w.heap.size) 24 #[.int .i64 bW, .int .i64 bH, .slice A (bW * bH) bc] := by
  have h0 := Blk.new (w) 24 #[.int .i64 bW, .int .i64 bH, .slice A (bW * bH) bc]
  exact (((((h0.alloc _).alloc _).alloc _).alloc _).alloc _)
 have w62 : Blk w6 (w.heap.size + 1) 24 #[.int .i64 cW, .int .i64 cH, .slice C (cW * cH) cc] := by
  have h0 := Blk.new ((w).alloc (.cells #[.int .i64 bW, .int .i64 bH, .slice A (bW * bH) bc] 24)) 24 #[.int .i64 cW, .int .i64 cH, .slice C (cW * cH) cc]
  simp only [World.size_alloc] at h0
  exact ((((h0.alloc _).alloc _).alloc _).alloc _)
 have w63 : Blk w6 (w.heap.size + 1 + 1) 3 #[.int .i64 x] := by
  have h0 := Blk.new (((w).alloc (.cells #[.int .i64 bW, .int .i64 bH, .slice A (bW * bH) bc] 24)).alloc (.cells #[.int .i64 cW, .int .i64 cH, .slice C (cW * cH) cc] 24)) 3 #[.int .i64 x]
  simp only [World.size_alloc] at h0
  exact (((h0.alloc _).alloc _).alloc _)
 have w64 : Blk w6 (w.heap.size + 1 + 1 + 1) 3 #[.int .i64 y] := by
  have h0 := Blk.new ((((w).alloc (.cells #[.int .i64 bW, .int .i64 bH, .slice A (bW * bH) bc] 24)).alloc (.cells #[.int .i64 cW, .int .i64 cH, .slice C (cW * cH) cc] 24)).alloc (.cells #[.int .i64 x] 3)) 3 #[.int .i64 y]
  simp only [World.size_alloc] at h0
  exact ((h0.alloc _).alloc _)
 have w65 : Blk w6 (w.heap.size + 1 + 1 + 1 + 1) 24 #[.int .i64 0, .int .i64 0, .slice none 0 0] := by
  have h0 := Blk.new (((((w).alloc (.cells #[.int .i64 bW, .int .i64 bH, .slice A (bW * bH) bc] 24)).alloc (.cells #[.int .i64 cW, .int .i64 cH, .slice C (cW * cH) cc] 24)).alloc (.cells #[.int .i64 x] 3)).alloc (.cells #[.int .i64 y] 3)) 24 #[.int .i64 0, .int .i64 0, .slice none 0 0]
  simp only [World.size_alloc] at h0
  exact (h0.alloc _)
 have w66 : Blk w6 (w.heap.size + 1 + 1 + 1 + 1 + 1) 24 #[.int .i64 bW, .int .i64 bH, .slice A (bW * bH) bc, .int .i64 cW, .int .i64 cH, .slice C (cW * cH) cc] := by
  have h0 := Blk.new ((((((w).alloc (.cells #[.int .i64 bW, .int .i64 bH, .slice A (bW * bH) bc] 24)).alloc (.cells #[.int .i64 cW, .int .i64 cH, .slice C (cW * cH) cc] 24)).alloc (.cells #[.int .i64 x] 3)).alloc (.cells #[.int .i64 y] 3)).alloc (.cells #[.int .i64 0, .int .i64 0, .slice none 0 0] 24)) 24 #[.int .i64 bW, .int .i64 bH, .slice A (bW * bH) bc, .int .i64 cW, .int .i64 cH, .slice C (cW * cH) cc]
  simp only [World.size_alloc] at h0
  exact h0
 go_enter Tryz.func68, Tryz.ntmps68
 go_wp2_with fail
 refine wp_loop_rounds 3 ?_
 rw [rounds_succ]
 go_wp2_with fail
 refine (checkBits_any _ _ _ _ _ _).mono ?_
 rintro e w7 ⟨rfl, hb7⟩
 have hb67 : Bl w6 w7 := ((Bl.refl w6).alloc _).trans hb7
 have a6 := (w66.bl hb67).all6
 have l7 : w.heap.size + 5 < w7.heap.size := by have := (w66.bl hb67).lt; simpa using this
 go_wp2_with fail
 rw [rounds_succ]
 go_wp2_with fail
 refine (checkBits_any _ _ _ _ _ _).mono ?_
 rintro e w8 ⟨rfl, hb8⟩
 have hb68 : Bl w6 w8 := (hb67.alloc _).trans hb8
 have q1 := (w61.bl hb68).all3
 have q2 := (w62.bl hb68).all3
 have q3 := (w63.bl hb68).all1
 have q4 := (w64.bl hb68).all1
 have q5 := w65.bl hb68
 have hr := q5.all3
 have l1 := (w61.bl hb68).lt
 have l2 := (w62.bl hb68).lt
 have l3 := (w63.bl hb68).lt
 have l4 := (w64.bl hb68).lt
 have l5 := q5.lt
 have hPA := (hA.bl (w6b.trans hb68))
 have hPC := (hC.bl (w6b.trans hb68))
 have hb8w := w6b.trans hb68
 generalize hB1 : w61.bl hb68 = B1
 clear hB1 a6 l7
 have B2 := w62.bl hb68
 have B3 := w63.bl hb68
 have B4 := w64.bl hb68
 go_wp2_with fail
 rw [rounds_succ]
 have tok : True := trivial
 have hP := fun (ap : Bool) (hap : ap = isApart bW bH cW cH x y) => (⟨enters Tryz.func134 (by kernel_rfl) rfl, fun wx u v hb hu hv => by
  subst hap
  have hb' : Bl w8 wx := ((Bl.refl w8).alloc _).trans hb
  have q2 : Blk (w8.alloc (.cells #[.bool (isApart bW bH cW cH x y)] 4)) w8.heap.size 4 #[.bool (isApart bW bH cW cH x y)] := Blk.new _ _ _
  exact paste1_any _ _ _ _ _ bW bH cW cH A C bc cc bs cs x y u v wx (B1.bl hb') (q2.bl hb) (B3.bl hb') (B4.bl hb') (B2.bl hb') (hPA.bl hb') (hPC.bl hb') ub1.2 ub2.2 uc1.2 uc2.2 hu hv⟩ :
  Paints Tryz.prog 134 #[.pointer (some ⟨w.heap.size, 0, none⟩), .pointer (some ⟨w8.heap.size, 0, none⟩), .pointer (some ⟨w.heap.size + 1 + 1, 0, none⟩), .pointer (some ⟨w.heap.size + 1 + 1 + 1, 0, none⟩), .pointer (some ⟨w.heap.size + 1, 0, none⟩)] Value.bool (w8.alloc (.cells #[.bool ap] 4)) bW bH (pasteF bs cs bW bH cW cH x y))
 have HP := Lib.hid hP; clear hP
 have HPA := Lib.hid hPA; have HPC := Lib.hid hPC
 clear hPA hPC B1 B2 B3 B4
 go_wp2_with fail
 all_goals
  refine (madeB_any bW bH _ _ _ _ (by omega) (by omega) hbd (HP.out _ (by first | (unfold isApart; rfl) | (simp [isApart]; omega)))).mono ?_
  rintro e w9 ⟨r, rfl, hpg, hb9⟩
  have kr := ((q5.alloc _).bl hb9).all3
  obtain ⟨R, rfl, hR, hRl, hRn⟩ := hpg
  have hb8' := hb8w.le
  have hRn' : w.heap.size + 5 ≤ R := by simp at hRn; omega
  have HR := Lib.hid hR; have HRn := Lib.hid hRn'; have HRl := Lib.hid hRl
  clear hR hRn hRn' hRl
  go_wp2_with fail
  refine bodyPost_ret (v := .tuple #[.agg #[.int .i64 bW, .int .i64 bH, .slice (some ⟨R, 0, none⟩) (bW * bH) (bW * bH)], .int .i64 0]) (by simp [results, Tryz.results68, go_sem, kr]) rfl ⟨_, rfl, ⟨R, rfl, ?_, HRl.out, by have := HRn.out; omega⟩, ?_⟩
  · have := HRn.out
    exact ((HR.out.far (by simp; omega) _).far (by simp; omega) _).far (by simp; omega) _
  · exact ((((hb8w.alloc _).trans hb9).setCell (by simp; omega) _).setCell (by simp; omega) _).setCell (by simp; omega) _
end Go.Proofs.YthobmednnocklaaGreatDoor


/-! The plain law of a text's words: where spaces part it. -/
namespace Go.Proofs.YthobmednnocklaaGreatDoor
open Go.RowKit

def wordsOf (t : List UInt8) : List (List UInt8) := Lib.split t [32]
end Go.Proofs.YthobmednnocklaaGreatDoor


/-! Names: page.IsName and bedref2.NameOf are nameB of the text's bytes. -/
namespace Go.Proofs
open Go.Shelf
def Tryz.lays160_ren : Go.Shelf.Ren := ⟨fun | 160 => 130 | 232 => 211 | 231 => 210 | 227 => 212 | 234 => 214 | 233 => 213 | 236 => 216 | 235 => 215 | 228 => 289 | 271 => 292 | 151 => 291 | 197 => 290 | 120 => 330 | 152 => 329 | 260 => 328 | 137 => 208 | 119 => 355 | 224 => 320 | 225 => 319 | 217 => 286 | 266 => 325 | n => n, fun | 9 => 9 | 4 => 4 | 3 => 3 | 5 => 5 | 117 => 305 | 116 => 304 | 0 => 0 | 124 => 308 | 21 => 21 | 105 => 363 | 46 => 173 | 119 => 385 | 139 => 415 | 138 => 414 | n => n, fun | 3 => 3 | 4 => 4 | n => n⟩
theorem Tryz.lays160 : Go.Proofs.Lays.n160 Tryz.prog Tryz.lays160_ren := {
 mixed := by kernel_rfl
 f119 := Tryz.func355.trans (congrArg some (by kernel_rfl))
 f120 := Tryz.func330.trans (congrArg some (by kernel_rfl))
 f137 := Tryz.func208.trans (congrArg some (by kernel_rfl))
 f151 := Tryz.func291.trans (congrArg some (by kernel_rfl))
 f152 := Tryz.func329.trans (congrArg some (by kernel_rfl))
 f160 := Tryz.func130.trans (congrArg some (by kernel_rfl))
 f197 := Tryz.func290.trans (congrArg some (by kernel_rfl))
 f217 := Tryz.func286.trans (congrArg some (by kernel_rfl))
 f224 := Tryz.func320.trans (congrArg some (by kernel_rfl))
 f225 := Tryz.func319.trans (congrArg some (by kernel_rfl))
 f227 := Tryz.func212.trans (congrArg some (by kernel_rfl))
 f228 := Tryz.func289.trans (congrArg some (by kernel_rfl))
 f231 := Tryz.func210.trans (congrArg some (by kernel_rfl))
 f232 := Tryz.func211.trans (congrArg some (by kernel_rfl))
 f233 := Tryz.func213.trans (congrArg some (by kernel_rfl))
 f234 := Tryz.func214.trans (congrArg some (by kernel_rfl))
 f235 := Tryz.func215.trans (congrArg some (by kernel_rfl))
 f236 := Tryz.func216.trans (congrArg some (by kernel_rfl))
 f260 := Tryz.func328.trans (congrArg some (by kernel_rfl))
 f266 := Tryz.func325.trans (congrArg some (by kernel_rfl))
 f271 := Tryz.func292.trans (congrArg some (by kernel_rfl))
 t0 := Tryz.underlying0
 a0 := Tryz.isAgg0
 z0 := Tryz.sizeOf0
 v0 := Tryz.zeroValue0
 t3 := Tryz.underlying3
 a3 := Tryz.isAgg3
 z3 := Tryz.sizeOf3
 v3 := Tryz.zeroValue3
 t4 := Tryz.underlying4
 a4 := Tryz.isAgg4
 z4 := Tryz.sizeOf4
 v4 := Tryz.zeroValue4
 t5 := Tryz.underlying5
 a5 := Tryz.isAgg5
 z5 := Tryz.sizeOf5
 v5 := Tryz.zeroValue5
 t9 := Tryz.underlying9
 a9 := Tryz.isAgg9
 z9 := Tryz.sizeOf9
 v9 := Tryz.zeroValue9
 t21 := Tryz.underlying21
 a21 := Tryz.isAgg21
 z21 := Tryz.sizeOf21
 v21 := Tryz.zeroValue21
 t46 := Tryz.underlying173
 a46 := Tryz.isAgg173
 z46 := Tryz.sizeOf173
 v46 := Tryz.zeroValue173
 t105 := Tryz.underlying363
 a105 := Tryz.isAgg363
 z105 := Tryz.sizeOf363
 v105 := Tryz.zeroValue363
 t116 := Tryz.underlying304
 a116 := Tryz.isAgg304
 z116 := Tryz.sizeOf304
 t117 := Tryz.underlying305
 a117 := Tryz.isAgg305
 z117 := Tryz.sizeOf305
 v117 := Tryz.zeroValue305
 t119 := Tryz.underlying385
 a119 := Tryz.isAgg385
 z119 := Tryz.sizeOf385
 t124 := Tryz.underlying308
 a124 := Tryz.isAgg308
 z124 := Tryz.sizeOf308
 v124 := Tryz.zeroValue308
 t138 := Tryz.underlying414
 a138 := Tryz.isAgg414
 z138 := Tryz.sizeOf414
 v138 := Tryz.zeroValue414
 t139 := Tryz.underlying415
 a139 := Tryz.isAgg415
 z139 := Tryz.sizeOf415
 v139 := Tryz.zeroValue415
 g3 := by kernel_rfl
 g4 := by kernel_rfl }

end Go.Proofs
namespace Go.Proofs.YthobmednnocklaaGreatDoor
open Go.RowKit Go.Shelf Go.Lib

def nameCs : List UInt8 := [97, 98, 99, 100, 101, 102, 103, 104, 105, 106, 107, 108, 109, 110, 111, 112, 113, 114, 115, 116, 117, 118, 119, 120, 121, 122, 48, 49, 50, 51, 52, 53, 54, 55, 56, 57, 45]
def isLow (b : UInt8) : Bool := decide (97 ≤ b.toNat ∧ b.toNat ≤ 122)
def nameB (l : List UInt8) : Bool := decide (l ≠ [] ∧ l.length ≤ 40 ∧ (∀ b, l[0]? = some b → isLow b = true) ∧ ∀ b ∈ l, nameCs.contains b = true)
theorem nameCs_has (b : UInt8) : nameCs.contains b = true ↔ (97 ≤ b.toNat ∧ b.toNat ≤ 122) ∨ (48 ≤ b.toNat ∧ b.toNat ≤ 57) ∨ b.toNat = 45 := by
 rw [List.contains_iff_mem]
 constructor
 · intro h
   simp only [nameCs, List.mem_cons, List.not_mem_nil, or_false] at h
   rcases h with h | h | h | h | h | h | h | h | h | h | h | h | h | h | h | h | h | h | h | h | h | h | h | h | h | h | h | h | h | h | h | h | h | h | h | h | h <;> subst h <;> decide
 · intro h
   have hb : b = UInt8.ofNat b.toNat := by simp
   rw [hb]
   have hlt : b.toNat < 256 := b.toNat_lt
   generalize b.toNat = n at h hlt
   have : n ∈ List.range 256 := List.mem_range.2 hlt
   revert h
   revert n
   decide +kernel
theorem dropWhile_nil {α : Type} (p : α → Bool) (l : List α) : l.dropWhile p = [] ↔ ∀ b ∈ l, p b = true := by
 induction l with
 | nil => simp
 | cons a l ih =>
  rw [List.dropWhile_cons]
  cases h : p a
  · simp [h]
  · simp [h, ih]
theorem takeWhile_all {α : Type} (p : α → Bool) (l : List α) : ∀ b ∈ l.takeWhile p, p b = true := by
 induction l with
 | nil => simp
 | cons a l ih =>
  rw [List.takeWhile_cons]
  cases h : p a
  · simp
  · intro b hb
    simp only [if_true, List.mem_cons] at hb
    rcases hb with rfl | hb
    · exact h
    · exact ih b hb
theorem trimS_nil_iff (l cs : List UInt8) : trimS l cs = [] ↔ ∀ b ∈ l, cs.contains b = true := by
 unfold trimS trimLeftS trimRightS
 rw [dropWhile_nil]
 constructor
 · intro h b hb
   by_cases hc : cs.contains b = true
   · exact hc
   · have hr : b ∈ l.reverse.dropWhile (cs.contains ·) := by
      have h2 : b ∈ l.reverse.takeWhile (cs.contains ·) ++ l.reverse.dropWhile (cs.contains ·) := by rw [List.takeWhile_append_dropWhile]; exact List.mem_reverse.2 hb
      rcases List.mem_append.1 h2 with h3 | h3
      · exact absurd (takeWhile_all _ _ _ h3) hc
      · exact h3
     exact h b (List.mem_reverse.2 hr)
 · intro h b hb
   exact h b (List.mem_reverse.1 ((List.dropWhile_suffix _).subset (List.mem_reverse.1 hb)))

theorem head_of {s : ByteArray} (h : 0 < s.size) : s.data.toList[0]? = some s[0] := by
 have := Lib.size_eq s
 rw [List.getElem?_eq_getElem (by omega)]; rfl
theorem nameB_empty {s : ByteArray} (h : s.size = 0) : nameB s.data.toList = false := by
 have := Lib.size_eq s
 have h2 : s.data.toList = [] := List.eq_nil_of_length_eq_zero (by omega)
 rw [h2]; rfl
theorem nameB_long {s : ByteArray} (h : ¬ s.size ≤ 40) : nameB s.data.toList = false := by
 have := Lib.size_eq s
 unfold nameB
 refine decide_eq_false fun h2 => ?_
 omega
theorem nameB_lo {s : ByteArray} (h0 : 0 < s.size) (h : ¬ 97 ≤ (s[0].toNat : Int)) : nameB s.data.toList = false := by
 unfold nameB
 refine decide_eq_false fun h2 => ?_
 have h3 := h2.2.2.1 _ (head_of h0)
 unfold isLow at h3
 have h4 := of_decide_eq_true h3
 omega
theorem nameB_hi {s : ByteArray} (h0 : 0 < s.size) (h : ¬ (s[0].toNat : Int) ≤ 122) : nameB s.data.toList = false := by
 unfold nameB
 refine decide_eq_false fun h2 => ?_
 have h3 := h2.2.2.1 _ (head_of h0)
 unfold isLow at h3
 have h4 := of_decide_eq_true h3
 omega
theorem nameB_trim {s : ByteArray} (h0 : 0 < s.size) (h40 : s.size ≤ 40) (ha : 97 ≤ (s[0].toNat : Int)) (hb : (s[0].toNat : Int) ≤ 122) (hl : s.size = s.data.toList.length) : nameB s.data.toList = (Lib.trimS s.data.toList nameCs).isEmpty := by
 rw [Bool.eq_iff_iff, List.isEmpty_iff, trimS_nil_iff]
 unfold nameB
 rw [decide_eq_true_eq]
 constructor
 · intro h; exact h.2.2.2
 · intro h
   refine ⟨fun e => ?_, by omega, fun b hb' => ?_, h⟩
   · have h2 := congrArg List.length e; simp only [List.length_nil] at h2; omega
   · rw [head_of h0] at hb'
     obtain rfl := Option.some.inj hb'
     unfold isLow
     exact decide_eq_true (by omega)
theorem empty_of {s : ByteArray} (h : s.size = 0) : s.toList.isEmpty = true := by
 rw [Lib.toList_data]
 cases h' : s.data.toList with
 | nil => rfl
 | cons _ _ => have := Lib.size_eq s; rw [h', List.length_cons] at this; omega
theorem nonempty_of {s : ByteArray} (h : 0 < s.size) : s.toList.isEmpty = false := by
 rw [Lib.toList_data]
 cases h' : s.data.toList with
 | nil => have := Lib.size_eq s; rw [h', List.length_nil] at this; omega
 | cons _ _ => rfl

set_option maxRecDepth 100000 in
set_option maxHeartbeats 1000000 in
theorem isName_any (s : ByteArray) (w : World) (hs : s.size ≤ 9223372036854775807) :
 Calls Tryz.prog 82 #[.string s] w fun e w' => e = .returned (.bool (nameB s.data.toList)) ∧ Bl w w' := by
 have hcon := fun w => Any.strings_Trim_laid Tryz.lays160 (by kernel_rfl) s ⟨nameCs.toArray⟩ w hs (by decide) (ascii_of_all (by decide))
 have Hlen := Lib.hid (Lib.size_eq s)
 by_cases h0 : 0 < s.size
 · have he := nonempty_of h0
   by_cases h40 : s.size ≤ 40
   · by_cases ha : 97 ≤ (s[0].toNat : Int)
     · by_cases hb : (s[0].toNat : Int) ≤ 122
       · obtain ⟨r, hr⟩ : ∃ r, r = (⟨(Lib.trimS s.data.toList nameCs).toArray⟩ : ByteArray) := ⟨_, rfl⟩
         have hcon' : ∀ w, Calls Tryz.prog 130 #[.string s, .string ⟨nameCs.toArray⟩] w fun e w' => e = .returned (.string r) ∧ Below w.heap.size w w' := by rw [hr]; exact hcon
         clear hcon
         go_enter Tryz.func82, Tryz.ntmps82
         go_wp2_with (go_at_call 130; refine (hcon' _).mono ?_; rintro e w' ⟨rfl, hB⟩)
         go_ret
         exact ⟨ret_bool (nameB_trim h0 h40 ha hb Hlen.out).symm, hB⟩
       · have HN := Lib.hid (nameB_hi h0 hb)
         go_enter Tryz.func82, Tryz.ntmps82
         go_wp2_with fail
         go_ret
         exact ⟨ret_bool HN.out.symm, Bl.refl _⟩
     · have HN := Lib.hid (nameB_lo h0 ha)
       go_enter Tryz.func82, Tryz.ntmps82
       go_wp2_with fail
       go_ret
       exact ⟨ret_bool HN.out.symm, Bl.refl _⟩
   · have HN := Lib.hid (nameB_long h40)
     go_enter Tryz.func82, Tryz.ntmps82
     go_wp2_with fail
     go_ret
     exact ⟨ret_bool HN.out.symm, Bl.refl _⟩
 · have he := empty_of (show s.size = 0 by omega)
   have HN := Lib.hid (nameB_empty (show s.size = 0 by omega))
   go_enter Tryz.func82, Tryz.ntmps82
   go_wp2_with fail
   go_ret
   exact ⟨ret_bool HN.out.symm, Bl.refl _⟩

/-- What NameOf's loop asks of the i-th byte. -/
def okAt (i : Nat) (b : UInt8) : Bool := isLow b || (decide (i ≠ 0) && (decide (48 ≤ b.toNat ∧ b.toNat ≤ 57) || decide (b.toNat = 45)))
theorem nameB_iff (l : List UInt8) : nameB l = true ↔ (l ≠ [] ∧ l.length ≤ 40) ∧ ∀ (i : Nat) b, l[i]? = some b → okAt i b = true := by
 unfold nameB
 simp only [decide_eq_true_eq]
 constructor
 · rintro ⟨h1, h2, h3, h4⟩
   refine ⟨⟨h1, h2⟩, fun i b hb => ?_⟩
   have h5 := (nameCs_has b).1 (h4 b (List.mem_of_getElem? hb))
   unfold okAt
   rcases i with _ | i
   · rw [h3 b hb]; rfl
   · unfold isLow
     simp only [Bool.or_eq_true, Bool.and_eq_true, decide_eq_true_eq]
     rcases h5 with h | h | h
     · exact Or.inl h
     · exact Or.inr ⟨by omega, Or.inl h⟩
     · exact Or.inr ⟨by omega, Or.inr h⟩
 · rintro ⟨⟨h1, h2⟩, h3⟩
   refine ⟨h1, h2, fun b hb => ?_, fun b hb => ?_⟩
   · have := h3 0 b hb
     unfold okAt at this
     simpa using this
   · obtain ⟨i, hi⟩ := List.getElem?_of_mem hb
     have := h3 i b hi
     unfold okAt isLow at this
     simp only [Bool.or_eq_true, Bool.and_eq_true, decide_eq_true_eq] at this
     refine (nameCs_has b).2 ?_
     rcases this with h | ⟨_, h | h⟩
     · exact Or.inl h
     · exact Or.inr (Or.inl h)
     · exact Or.inr (Or.inr h)
theorem okAt_iff (i : Nat) (b : UInt8) : okAt i b = true ↔ (97 ≤ (b.toNat : Int) ∧ (b.toNat : Int) ≤ 122) ∨ (i ≠ 0 ∧ ((48 ≤ (b.toNat : Int) ∧ (b.toNat : Int) ≤ 57) ∨ (b.toNat : Int) = 45)) := by
 unfold okAt isLow
 simp only [Bool.or_eq_true, Bool.and_eq_true, decide_eq_true_eq]
 omega
theorem nameB_stop {l : List UInt8} {k : Nat} {b : UInt8} (h : l[k]? = some b) (hn : ¬ okAt k b = true) : nameB l = false := by
 cases e : nameB l
 · rfl
 · exact absurd (((nameB_iff l).1 e).2 k b h) hn
theorem nameB_end {s : ByteArray} (hl : s.size = s.data.toList.length) (h : ∀ (j : Nat) b, j < s.size → s.data.toList[j]? = some b → okAt j b = true) : nameB s.data.toList = (!s.toList.isEmpty && decide ((s.size : Int) ≤ 40)) := by
 rw [Bool.eq_iff_iff, nameB_iff]
 rw [Bool.and_eq_true, decide_eq_true_eq, Lib.toList_data]
 simp only [Bool.not_eq_true', List.isEmpty_eq_false_iff]
 constructor
 · rintro ⟨⟨h1, h2⟩, _⟩; exact ⟨h1, by omega⟩
 · rintro ⟨h1, h2⟩
   refine ⟨⟨h1, by omega⟩, fun i b hb => h i b ?_ hb⟩
   have := List.getElem?_eq_some_iff.1 hb
   obtain ⟨h3, _⟩ := this
   omega

set_option maxRecDepth 100000 in
set_option maxHeartbeats 1000000 in
theorem nameOf_any (s : ByteArray) (w : World) (hs : s.size ≤ 9223372036854775807) :
 Calls Tryz.prog 36 #[.string s] w fun e w' => e = .returned (.bool (nameB s.data.toList)) ∧ Bl w w' := by
 have Hlen := Lib.hid (Lib.size_eq s)
 go_enter Tryz.func36, Tryz.ntmps36
 go_wp2_with fail
 go_loop [7] (fun u => ∃ k : Nat, k ≤ s.size ∧ u = .int .i64 k ∧ ∀ (j : Nat) b, j < k → s.data.toList[j]? = some b → okAt j b = true) (fun u => s.size - (RowKit.intOf u).toNat)
 case atStart => exact ⟨0, Nat.zero_le _, rfl, fun j b hj => absurd hj (Nat.not_lt_zero _)⟩
 case round =>
  obtain ⟨k, hk, rfl, hc⟩ := hrel
  have HC := Lib.hid hc
  clear hc
  by_cases hlt : k < s.size
  · have hg : s.data.toList[k]? = some s[k] := by rw [List.getElem?_eq_getElem (by have := Hlen.out; omega)]; rfl
    have HG := Lib.hid hg
    clear hg
    by_cases c1 : 97 ≤ (s[k].toNat : Int)
    · by_cases c2 : (s[k].toNat : Int) ≤ 122
      · have HO := Lib.hid ((okAt_iff k s[k]).2 (by first | omega | (have h3 := HK0.out; omega)))
        go_wp2_with fail
        exact ⟨⟨k + 1, hlt, by go_num, fun j b hj hb => by
         rcases Nat.lt_succ_iff_lt_or_eq.1 hj with h | rfl
         · exact HC.out j b h hb
         · rw [HG.out] at hb
           obtain rfl := Option.some.inj hb
           exact HO.out⟩, by simp [RowKit.intOf]; omega⟩
      · by_cases hk0 : k = 0
        · have hq : ((k : Int) == 0) = true := by simp [hk0]
          have HK0 := Lib.hid hk0; clear hk0
          have HO := Lib.hid (show ¬ okAt k s[k] = true from fun h => by have h2 := (okAt_iff k s[k]).1 h; first | omega | (have h3 := HK0.out; omega))
          have HN := Lib.hid (nameB_stop HG.out HO.out)
          go_wp2_with fail
          go_ret
          exact ⟨ret_bool HN.out.symm, Bl.refl _⟩
        · have hq : ((k : Int) == 0) = false := by simp [hk0]
          have HK0 := Lib.hid hk0; clear hk0
          have c3 : 48 ≤ (s[k].toNat : Int) := by omega
          have c4 : ¬ (s[k].toNat : Int) ≤ 57 := by omega
          have c5 : ((s[k].toNat : Int) != 45) = true := by simp; omega
          have HO := Lib.hid (show ¬ okAt k s[k] = true from fun h => by have h2 := (okAt_iff k s[k]).1 h; first | omega | (have h3 := HK0.out; omega))
          have HN := Lib.hid (nameB_stop HG.out HO.out)
          go_wp2_with fail
          go_ret
          exact ⟨ret_bool HN.out.symm, Bl.refl _⟩
    · by_cases hk0 : k = 0
      · have hq : ((k : Int) == 0) = true := by simp [hk0]
        have HK0 := Lib.hid hk0; clear hk0
        have HO := Lib.hid (show ¬ okAt k s[k] = true from fun h => by have h2 := (okAt_iff k s[k]).1 h; first | omega | (have h3 := HK0.out; omega))
        have HN := Lib.hid (nameB_stop HG.out HO.out)
        go_wp2_with fail
        go_ret
        exact ⟨ret_bool HN.out.symm, Bl.refl _⟩
      · have hq : ((k : Int) == 0) = false := by simp [hk0]
        have HK0 := Lib.hid hk0; clear hk0
        by_cases c3 : 48 ≤ (s[k].toNat : Int)
        · by_cases c4 : (s[k].toNat : Int) ≤ 57
          · have HO := Lib.hid ((okAt_iff k s[k]).2 (by first | omega | (have h3 := HK0.out; omega)))
            go_wp2_with fail
            exact ⟨⟨k + 1, hlt, by go_num, fun j b hj hb => by
             rcases Nat.lt_succ_iff_lt_or_eq.1 hj with h | rfl
             · exact HC.out j b h hb
             · rw [HG.out] at hb
               obtain rfl := Option.some.inj hb
               exact HO.out⟩, by simp [RowKit.intOf]; omega⟩
          · have c5 : ((s[k].toNat : Int) != 45) = true := by simp; omega
            have HO := Lib.hid (show ¬ okAt k s[k] = true from fun h => by have h2 := (okAt_iff k s[k]).1 h; first | omega | (have h3 := HK0.out; omega))
            have HN := Lib.hid (nameB_stop HG.out HO.out)
            go_wp2_with fail
            go_ret
            exact ⟨ret_bool HN.out.symm, Bl.refl _⟩
        · by_cases c6 : (s[k].toNat : Int) = 45
          · have c5 : ((s[k].toNat : Int) != 45) = false := by simp [c6]
            have HO := Lib.hid ((okAt_iff k s[k]).2 (by first | omega | (have h3 := HK0.out; omega)))
            go_wp2_with fail
            exact ⟨⟨k + 1, hlt, by go_num, fun j b hj hb => by
             rcases Nat.lt_succ_iff_lt_or_eq.1 hj with h | rfl
             · exact HC.out j b h hb
             · rw [HG.out] at hb
               obtain rfl := Option.some.inj hb
               exact HO.out⟩, by simp [RowKit.intOf]; omega⟩
          · have c5 : ((s[k].toNat : Int) != 45) = true := by simp; omega
            have HO := Lib.hid (show ¬ okAt k s[k] = true from fun h => by have h2 := (okAt_iff k s[k]).1 h; first | omega | (have h3 := HK0.out; omega))
            have HN := Lib.hid (nameB_stop HG.out HO.out)
            go_wp2_with fail
            go_ret
            exact ⟨ret_bool HN.out.symm, Bl.refl _⟩
  · obtain rfl : k = s.size := by omega
    have HE := Lib.hid (nameB_end Hlen.out HC.out)
    cases he : s.toList.isEmpty <;> by_cases h40 : s.size ≤ 40
    all_goals
     have HX := Lib.hid HE.out
     go_wp2_with fail
     go_ret
     exact ⟨ret_bool (by rw [HE.out, he]; first | (simp; done) | (simp; omega)), Bl.refl _⟩

end Go.Proofs.YthobmednnocklaaGreatDoor


/-! From a statement's row to a walk: arguments that read as data are opened; a law that answers true and turns nothing has its row. No condition. -/
namespace Go.Proofs.YthobmednnocklaaGreatDoor
open Go.ChangeShapes Go.WideShapes Go.ChangeAt Go.RowKit Go.Joins

theorem Tryz.own : ownKnob Tryz.prog.godebug = none := by kernel_rfl
theorem Tryz.laidOut : laidOutB Tryz.prog = true := by kernel_rfl

section
variable {H : Type} {enc : TypeId × Value → H} {P : Program} {w : World} {base : Nat} {spare : Nat → Bool} {held : Bool}

/-- A slice of bools. -/
theorem rd_bools {t e : TypeId} {fuel : Nat} {a0 : Option Addr} {len cap : Nat} {x : DataW H × List MemPlace} (ht : P.underlying t = some (.slice e)) (he : P.underlying e = some .bool) (hc : P.cellsOf e = 1)
 (h : DataW.trod enc P w base spare held fuel t [.slice a0 len cap] = some x) :
 ∃ bs : List Bool, bs.length = len ∧ Reads w 1 a0 len (bs.map .bool) ∧ len ≤ maxLen := by
 rcases DataW.trod_slice ht h with ⟨hcs, _⟩ | ⟨a, len', cap', elems, rest, n, _, hcs, _, _, hl, hm, hlen, hel, _⟩
 · simp at hcs
   obtain ⟨rfl, rfl, rfl⟩ := hcs
   exact ⟨[], rfl, Reads.none_, by unfold maxLen; omega⟩
 · simp at hcs
   obtain ⟨rfl, rfl, rfl⟩ := hcs
   have each : ∀ i, i < len → ∃ b : Bool, w.cell? (a.add i) = some (.bool b) := by
    intro i hi
    have h1 := hel i hi
    rw [List.getElem?_eq_getElem (by omega)] at h1
    obtain ⟨cs, hcs, htr⟩ := Option.bind_eq_some_iff.1 h1
    obtain ⟨b, rfl, _⟩ := DataW.trod_bool he htr
    rw [hc] at hcs
    simp only [World.cells?, Nat.mul_one] at hcs
    split at hcs
    · simp [List.range_succ] at hcs
      refine ⟨b, ?_⟩
      cases hq : w.cell? ((a.add i).add 0) with
      | none => simp [hq] at hcs
      | some v =>
       simp [hq] at hcs
       rw [add_of_add, Nat.add_zero] at hq
       rw [hq, hcs]
    · cases hcs
   have build : ∀ m, m ≤ len → ∃ bs : List Bool, bs.length = m ∧ ∀ i, i < m → w.cell? (a.add i) = some (.bool (bs.getD i false)) := by
    intro m
    induction m with
    | zero => exact fun _ => ⟨[], rfl, fun i hi => absurd hi (by omega)⟩
    | succ m ih =>
     intro hm'
     obtain ⟨bs, hb, hbs⟩ := ih (by omega)
     obtain ⟨b, hb'⟩ := each m (by omega)
     refine ⟨bs ++ [b], by simp [hb], fun i hi => ?_⟩
     rcases Nat.lt_or_ge i m with h' | h'
     · rw [hbs i h']; simp [List.getD, List.getElem?_append_left (show i < bs.length by omega)]
     · obtain rfl : i = m := by omega
       rw [hb']; simp [List.getD, ← hb]
   obtain ⟨bs, hb, hbs⟩ := build len (Nat.le_refl _)
   refine ⟨bs, hb, ⟨by simp [hb], fun _ => ⟨a, rfl, fun j u hu => ?_⟩⟩, by omega⟩
   have hj : j < bs.length := by
    have := (List.getElem?_eq_some_iff.1 hu).1
    simpa using this
   rw [hbs j (by omega)]
   simp only [List.getElem?_map, List.getElem?_eq_getElem hj, Option.map_some] at hu
   simpa [List.getD, hj] using hu
end

section
variable {H : Type} {enc : TypeId × Value → H} {P : Program} {w : World} {base : Nat} {spare : Nat → Bool} {held : Bool}
theorem slice_of_trod {t e : TypeId} {fuel : Nat} {v : Value} {x : DataW H × List MemPlace} (ht : P.underlying t = some (.slice e)) (h : DataW.trod enc P w base spare held fuel t [v] = some x) : ∃ a n c, v = .slice a n c := by
 rcases DataW.trod_slice ht h with ⟨hcs, _⟩ | ⟨a, len', cap', elems, rest, n, _, hcs, _⟩
 · exact ⟨none, 0, 0, by simpa using hcs⟩
 · exact ⟨some a, len', cap', by simpa using hcs⟩
theorem i64_of_wf {n : Int} (h : (Lit.int .i64 n).wf = true) : -9223372036854775808 ≤ n ∧ n ≤ 9223372036854775807 := by
 simp [Lit.wf, IntKind.min, IntKind.max, IntKind.signed, IntKind.bits] at h
 omega
end

/-! ### pages -/
section
variable {H : Type} {enc : TypeId × Value → H} {w : World} {base b0 : Nat} {spare : Nat → Bool} {held : Bool} {r : Reach}
set_option maxRecDepth 100000 in
theorem open_bits {v : Value} {d : DataW H} {p : List MemPlace} (hv : Value.okWide Tryz.prog w r b0 24 v) (h : DataW.Trod enc Tryz.prog w base spare held 24 v d p) :
 ∃ (W Ht : Int) (A : Option Addr) (n c : Nat) (bs : List Bool), v = .agg #[.int .i64 W, .int .i64 Ht, .slice A n c] ∧ bs.length = n ∧ Reads w 1 A n (bs.map .bool) ∧ n ≤ maxLen ∧
  (-9223372036854775808 ≤ W ∧ W ≤ 9223372036854775807) ∧ (-9223372036854775808 ≤ Ht ∧ Ht ≤ 9223372036854775807) := by
 obtain ⟨v0, v1, v2, y0, y1, y2, k, rfl, _, _, h0, h1, h2⟩ := open_agg3 Tryz.underlying24 (by kernel_rfl) (by kernel_rfl) hv h
 obtain ⟨W, e0, _, w0⟩ := DataW.trod_int Tryz.underlying3 h0
 obtain ⟨Ht, e1, _, w1⟩ := DataW.trod_int Tryz.underlying3 h1
 obtain ⟨A, n, c, rfl⟩ := slice_of_trod Tryz.underlying22 h2
 simp at e0 e1
 subst e0 e1
 obtain ⟨bs, hz, hr, hm⟩ := rd_bools Tryz.underlying22 Tryz.underlying4 (by kernel_rfl) h2
 exact ⟨W, Ht, A, n, c, bs, rfl, hz, hr, hm, i64_of_wf w0, i64_of_wf w1⟩
end

section
variable {H : Type} {enc : TypeId × Value → H} {P : Program}

/-- What was there when the call began reads as it did. -/
theorem trodAll_bl {W W' : World} (hl : laidOutB P = true) (hb : Bl W W') : ∀ (ts : List TypeId) (vs : List Value) (ds : List (DataW H)) (ps : List MemPlace),
 (∀ t ∈ ts, P.readableRec t = true ∧ t < P.types.size) → (∀ x ∈ ps, x.block < W.heap.size) →
 DataW.TrodAll enc P W 0 (fun _ => true) true ts vs ds ps → DataW.TrodAll enc P W' 0 (fun b => decide (b < W.heap.size)) true ts vs ds ps
 | [], [], [], ps, _, _, h => h
 | t :: ts, v :: vs, d :: ds, ps, hr, hlt, h => by
  obtain ⟨p, q, h1, h2, rfl⟩ := h
  have ht := hr t (by simp)
  exact ⟨p, q, Below.trod hl ht.1 ht.2 h1 hb (fun x hx => hlt x (by simp [hx])), trodAll_bl hl hb ts vs ds q (fun t h => hr t (by simp [h])) (fun x hx => hlt x (by simp [hx])) h2, rfl⟩
 | [], _ :: _, _, _, _, _, h => h.elim
 | [], [], _ :: _, _, _, _, h => h.elim
 | _ :: _, [], _, _, _, _, h => h.elim
 | _ :: _, _ :: _, [], _, _, _, h => h.elim

/-- THE ROW's END: the law has answered true, and nothing that was there has turned. -/
theorem law_post {f : Func} {s : ChangeSpec} {W W' : World} {args : Array Value} {ds gs : List (DataW H)} {before : List MemPlace} {tb : TypeId} (hl : laidOutB P = true) (htb : P.underlying tb = some .bool)
 (hres : f.resultTypes = #[tb]) (hvars : s.vars = []) (hall : ∀ t ∈ f.params.toList, P.readableRec t = true ∧ t < P.types.size)
 (hW' : DataW.Whole enc P f.params.toList s.vars false W args.toList ds gs before)
 (hr : (s.fn H (ds ++ gs)).results = [.lit (.bool true)]) (ha : (s.fn H (ds ++ gs)).args = ds) (hv : (s.fn H (ds ++ gs)).vars = []) (hb : Bl W W') :
 s.post enc P f false true false false W args (.bool true) W' := by
 obtain ⟨p, q, hA, hV, rfl, _, _⟩ := id hW'
 have hlt : ∀ x ∈ p, x.block < W.heap.size := fun x hx => hW'.lt x (by simp [hx])
 refine ⟨ds, gs, p ++ q, [], p, [], hW', ?_, ?_, ?_, Below.frame hb _, fun h => by cases h⟩
 · rw [hr, hres]
   exact trodAll_mk1 (shut_bool htb true)
 · rw [ha]
   exact trodAll_bl hl hb _ _ _ _ hall hlt hA
 · rw [hv, hvars]
   exact rfl
end

end Go.Proofs.YthobmednnocklaaGreatDoor


/-! A box by value is opened. No condition. -/
namespace Go.Proofs.YthobmednnocklaaGreatDoor
open Go.ChangeShapes Go.WideShapes Go.ChangeAt Go.RowKit Go.Joins

section
variable {H : Type} {enc : TypeId × Value → H} {w : World} {base b0 : Nat} {spare : Nat → Bool} {held : Bool} {r : Reach}
set_option maxRecDepth 100000 in
theorem open_box {v : Value} {d : DataW H} {p : List MemPlace} (hv : Value.okWide Tryz.prog w r b0 26 v) (h : DataW.Trod enc Tryz.prog w base spare held 26 v d p) :
 ∃ (X Y W Ht : Int), v = .agg #[.int .i64 X, .int .i64 Y, .int .i64 W, .int .i64 Ht] ∧ (-9223372036854775808 ≤ X ∧ X ≤ 9223372036854775807) ∧ (-9223372036854775808 ≤ Y ∧ Y ≤ 9223372036854775807) ∧
  (-9223372036854775808 ≤ W ∧ W ≤ 9223372036854775807) ∧ (-9223372036854775808 ≤ Ht ∧ Ht ≤ 9223372036854775807) := by
 obtain ⟨v0, v1, v2, v3, y0, y1, y2, y3, k, rfl, _, _, h0, h1, h2, h3⟩ := open_agg4 Tryz.underlying26 (by kernel_rfl) (by kernel_rfl) hv h
 obtain ⟨X, e0, _, w0⟩ := DataW.trod_int Tryz.underlying3 h0
 obtain ⟨Y, e1, _, w1⟩ := DataW.trod_int Tryz.underlying3 h1
 obtain ⟨W, e2, _, w2⟩ := DataW.trod_int Tryz.underlying3 h2
 obtain ⟨Ht, e3, _, w3⟩ := DataW.trod_int Tryz.underlying3 h3
 simp at e0 e1 e2 e3
 subst e0 e1 e2 e3
 exact ⟨X, Y, W, Ht, rfl, i64_of_wf w0, i64_of_wf w1, i64_of_wf w2, i64_of_wf w3⟩
end

end Go.Proofs.YthobmednnocklaaGreatDoor
