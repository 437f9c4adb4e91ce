/- page.counted, Rows, Columns, Histogram. -/
import Derived.Test.YthobmednnocklaaGreatDoorMClaimLinesAreRead0

namespace Go.Proofs.YthobmednnocklaaGreatDoor
open Go.RowKit

/-! ### plain -/
def grid {α : Type} (W H : Nat) (f : Nat → Nat → α) : List α := (List.range (W * H)).map fun i => f (i % W) (i / W)
theorem grid_length {α : Type} (W H : Nat) (f : Nat → Nat → α) : (grid W H f).length = W * H := by simp [grid]
theorem grid_at {α : Type} (W H : Nat) (f : Nat → Nat → α) (i : Nat) (h : i < W * H) : (grid W H f)[i]? = some (f (i % W) (i / W)) := by simp [grid, h]
theorem grid_congr {α : Type} (W H : Nat) (f g : Nat → Nat → α) (h : ∀ x y, x < W → y < H → f x y = g x y) : grid W H f = grid W H g := by
 unfold grid
 apply List.map_congr_left
 intro i hi
 have hi' : i < W * H := by simpa using hi
 have hW : 0 < W := by rcases Nat.eq_zero_or_pos W with h0 | h0; (subst h0; simp at hi'); exact h0
 exact h _ _ (Nat.mod_lt _ hW) (Nat.div_lt_of_lt_mul hi')
/-- The first m places of a page, row by row. -/
def gridTo {α : Type} (W : Nat) (f : Nat → Nat → α) (m : Nat) : List α := (List.range m).map fun i => f (i % W) (i / W)
theorem gridTo_succ {α : Type} (W : Nat) (f : Nat → Nat → α) (con : α → Value) (y x : Nat) (hx : x < W) : (gridTo W f (y * W + x + 1)).map con = (gridTo W f (y * W + x)).map con ++ [con (f x y)] := by
 have ex : (y * W + x) % W = x := by rw [Nat.mul_comm, Nat.mul_add_mod, Nat.mod_eq_of_lt hx]
 have ey : (y * W + x) / W = y := by rw [Nat.mul_comm, Nat.mul_add_div (by omega), Nat.div_eq_of_lt hx, Nat.add_zero]
 simp [gridTo, List.range_succ, ex, ey]

/-- A page with its cells. -/
def IsPage (w : World) (v : Value) (W H : Nat) (cells : List Value) : Prop := ∃ A c, v = .agg #[.int .i64 W, .int .i64 H, .slice A (W * H) c] ∧ Reads w 1 A (W * H) cells
theorem IsPage.bl {w w' : World} {v : Value} {W H : Nat} {cells : List Value} (h : IsPage w v W H cells) (hb : Bl w w') : IsPage w' v W H cells :=
 let ⟨A, c, e, hr⟩ := h
 ⟨A, c, e, hr.bl hb⟩

/-- A page in new memory: from block B on. -/
def NPage (B : Nat) (w : World) (v : Value) (W H : Nat) (cells : List Value) : Prop := ∃ A c, v = .agg #[.int .i64 W, .int .i64 H, .slice A (W * H) c] ∧ Reads w 1 A (W * H) cells ∧ ∀ ad, A = some ad → B ≤ ad.block
theorem NPage.is {B : Nat} {w : World} {v : Value} {W H : Nat} {cells : List Value} (h : NPage B w v W H cells) : IsPage w v W H cells :=
 let ⟨A, c, e, hr, _⟩ := h
 ⟨A, c, e, hr⟩
theorem NPage.bl {B : Nat} {w w' : World} {v : Value} {W H : Nat} {cells : List Value} (h : NPage B w v W H cells) (hb : Bl w w') : NPage B w' v W H cells :=
 let ⟨A, c, e, hr, hn⟩ := h
 ⟨A, c, e, hr.bl hb, hn⟩
theorem NPage.mono {B B' : Nat} {w : World} {v : Value} {W H : Nat} {cells : List Value} (h : NPage B w v W H cells) (hb : B' ≤ B) : NPage B' w v W H cells :=
 let ⟨A, c, e, hr, hn⟩ := h
 ⟨A, c, e, hr, fun ad h => Nat.le_trans hb (hn ad h)⟩
theorem Reads.store {B : Nat} {w : World} {size n : Nat} {A : Option Addr} {xs : List Value} (h : Reads w size A n xs) (hn : ∀ ad, A = some ad → B ≤ ad.block) {p : Addr} (hp : p.block < B) (u : Value) : Reads (w.setCell p u) size A n xs :=
 ⟨h.1, fun hk => by
  obtain ⟨ad, e, hc⟩ := h.2 hk
  exact ⟨ad, e, fun j x hx => by rw [World.cell?_setCell_other w p _ u (fun e' => by have h1 := hn ad e; have h2 := congrArg Addr.block e'; rw [block_of_add] at h2; omega)]; exact hc j x hx⟩⟩
theorem NPage.store {B : Nat} {w : World} {v : Value} {W H : Nat} {cells : List Value} (h : NPage B w v W H cells) {p : Addr} (hp : p.block < B) (u : Value) : NPage B (w.setCell p u) v W H cells :=
 let ⟨A, c, e, hr, hn⟩ := h
 ⟨A, c, e, hr.store hn hp u, hn⟩

/-- A function value that tells a place's value. -/
def Paints {α : Type} (P : Program) (k : FuncId) (cap : Array Value) (con : α → Value) (w : World) (W H : Nat) (f : Nat → Nat → α) : Prop :=
 (∀ args w, (callFunc k args).run P w = .ok (.enter k args) w) ∧
 ∀ wx (x y : Nat), Bl w wx → x < W → y < H → Calls P k (#[.int .i64 x, .int .i64 y] ++ cap) wx fun e w' => e = .returned (con (f x y)) ∧ Bl wx w'
theorem Paints.bl {α : Type} {P : Program} {k : FuncId} {cap : Array Value} {con : α → Value} {w w' : World} {W H : Nat} {f : Nat → Nat → α} (h : Paints P k cap con w W H f) (hb : Bl w w') : Paints P k cap con w' W H f :=
 ⟨h.1, fun wx x y hx => h.2 wx x y (hb.trans hx)⟩

theorem place_lt {W H x y : Nat} (hx : x < W) (hy : y < H) : y * W + x < W * H := by
 have m := mul_step (a := W) hy
 rw [Nat.mul_comm W H]; omega

/-! ### Bits -/
def madeInv (w : World) (W H : Nat) (f : Nat → Nat → Bool) (wr : World) (n : Nat) : Prop :=
 Bl w wr ∧ (∃ cs : Array Value, Blk wr (w.heap.size + 1) 4 cs ∧ cs.size = W * H ∧ ∀ i, i < n → cs[i]? = some (Value.bool (f (i % W) (i / W)))) ∧
  Blk wr (w.heap.size + 1 + 1) 24 #[.int .i64 W, .int .i64 H, .slice (some ⟨w.heap.size + 1, 0, none⟩) (W * H) (W * H)] ∧
  Blk wr w.heap.size 24 #[.int .i64 0, .int .i64 0, .slice none 0 0]

theorem madeInv.start (w : World) (W H : Nat) (f : Nat → Nat → Bool) : madeInv w W H f (((w.alloc (.cells #[.int .i64 0, .int .i64 0, .slice none 0 0] 24)).alloc (.cells (madeCells #[.bool false] (W * H)) 4)).alloc
 (.cells #[.int .i64 W, .int .i64 H, .slice (some ⟨w.heap.size + 1, 0, none⟩) (W * H) (W * H)] 24)) 0 := by
 have b0 := Blk.new w 24 #[.int .i64 0, .int .i64 0, .slice none 0 0]
 have b1 := Blk.new (w.alloc (.cells #[.int .i64 0, .int .i64 0, .slice none 0 0] 24)) 4 (madeCells #[.bool false] (W * H))
 have b2 := Blk.new ((w.alloc (.cells #[.int .i64 0, .int .i64 0, .slice none 0 0] 24)).alloc (.cells (madeCells #[.bool false] (W * H)) 4)) 24 #[.int .i64 W, .int .i64 H, .slice (some ⟨w.heap.size + 1, 0, none⟩) (W * H) (W * H)]
 simp only [World.size_alloc] at b1 b2
 exact ⟨(((Bl.refl w).alloc _).alloc _).alloc _, ⟨_, b1.alloc _, size_madeCells _ _, fun i hi => absurd hi (by omega)⟩, b2, (b0.alloc _).alloc _⟩

set_option maxRecDepth 100000 in
set_option maxHeartbeats 1000000 in
theorem made_any (W H : Nat) (f : Nat → Nat → Bool) (k : FuncId) (cap : Array Value) (w : World) (hW : W ≤ 1048576) (hH : H ≤ 1048576) (hWH : W * H ≤ 1048576) (hk : Paints Tryz.prog k cap Value.bool w W H f) :
 Calls Tryz.prog 133 #[.int .i64 W, .int .i64 H, .func (.func k) #[] cap] w fun e w' => ∃ v, e = .returned v ∧ NPage w.heap.size w' v W H ((grid W H f).map Value.bool) ∧ Bl w w' := by
 have hmk := run_make_row' (P := Tryz.prog) 22 4 (.bool false) 1 Tryz.underlying22 info_bool rfl .i64 .i64 (W * H) (by omega) (by omega)
 have hent := hk.1
 have eWH : (W : Int) * (H : Int) = ((W * H : Nat) : Int) := by simp
 have h1 : (0:Int) ≤ (W:Int) * (H:Int) := by omega
 have h2 : (W:Int) * (H:Int) ≤ 1048576 := by omega
 rw [← eWH] at hmk
 have EWH := Lib.hid eWH; clear eWH
 have inv0 := Lib.hid (madeInv.start w W H f)
 go_enter Tryz.func133, Tryz.ntmps133
 go_wp2_with fail
 go_loopw [18] (fun v wr => ∃ y : Nat, y ≤ H ∧ v = .int .i64 y ∧ madeInv w W H f wr (y * W)) (fun v _ => H - (intOf v).toNat)
 case atStart => exact ⟨0, Nat.zero_le _, rfl, by simpa using inv0.out⟩
 case round =>
  obtain ⟨y, hy, rfl, hinv⟩ := hrel
  by_cases hlt : y < H
  · go_wp2_with fail
    go_loopw [22] (fun v w2 => ∃ x : Nat, x ≤ W ∧ v = .int .i64 x ∧ madeInv w W H f w2 (y * W + x)) (fun v _ => W - (intOf v).toNat)
    case atStart => exact ⟨0, Nat.zero_le _, rfl, by simpa using hinv⟩
    case round =>
     obtain ⟨x, hx, rfl, hinv2⟩ := hrel
     by_cases hlt2 : x < W
     · obtain ⟨hbl, ⟨cs, hblk, hsz, hcs⟩, hb2, hb0⟩ := hinv2
       have ex : (y * W + x) % W = x := by rw [Nat.mul_comm, Nat.mul_add_mod, Nat.mod_eq_of_lt hlt2]
       have ey : (y * W + x) / W = y := by rw [Nat.mul_comm, Nat.mul_add_div (by omega), Nat.div_eq_of_lt hlt2, Nat.add_zero]
       have hilt := place_lt hlt2 hlt
       obtain ⟨i, hi⟩ : ∃ i, i = y * W + x := ⟨_, rfl⟩
       have e1 : (y : Int) * (W : Int) + (x : Int) = (i : Int) := by rw [hi]; simp
       rw [← hi] at hilt ex ey hcs
       have k2 := hb2.all3
       obtain ⟨vi, ci⟩ : ∃ v, wr.cell? ⟨w.heap.size + 1, i, none⟩ = some v := ⟨cs[i]'(by omega), by rw [hblk.cell]; simp⟩
       have fi := hblk.frozen i
       have hi2 : (i:Int) < (W:Int) * (H:Int) := by have := EWH.out; omega
       have h3 : (0:Int) ≤ (y:Int) * (W:Int) ∧ (y:Int) * (W:Int) ≤ 1048576 := by have := Int.natCast_mul y W; have := EWH.out; omega
       have Hi := Lib.hid hi; have Hcs := Lib.hid hcs; have Hex := Lib.hid ex; have Hey := Lib.hid ey
       clear hi hcs ex ey
       go_wp2_with fail
       refine wp_region_flow [(true, 0), (true, 1), (true, 2), (true, 3), (true, 4), (true, 5), (true, 6), (true, 7), (true, 8), (true, 9), (false, 10), (true, 11), (false, 12)] (fun i => i == 12) (by kernel_rfl) (by kernel_rfl) (by kernel_rfl) (by kernel_rfl) ?_
       iterate 2
        apply Flow.calm2 _ _ rfl rfl
        · intro w' hb' K' hK'
          obtain ⟨hc', hf'⟩ := hb'.rule
          go_simp
          try go_ints
          exact hK'
        · intro K' hK'
          simp only [sqA]
          exact hK'
       iterate 2
        apply Flow.mv _ rfl
        · intro K' hK'
          simp only [sqA, Act.eval, arr_getD, List.getD_cons_zero, List.getD_cons_succ]
          exact hK'
       iterate 1
        apply Flow.calm2 _ _ rfl rfl
        · intro w' hb' K' hK'
          obtain ⟨hc', hf'⟩ := hb'.rule
          go_simp
          try go_ints
          exact hK'
        · intro K' hK'
          simp only [sqA]
          exact hK'
       iterate 1
        apply Flow.mv _ rfl
        · intro K' hK'
          simp only [sqA, Act.eval, arr_getD, List.getD_cons_zero, List.getD_cons_succ]
          exact hK'
       iterate 1
        apply Flow.calm2 _ _ rfl rfl
        · intro w' hb' K' hK'
          obtain ⟨hc', hf'⟩ := hb'.rule
          go_simp
          try go_ints
          exact hK'
        · intro K' hK'
          simp only [sqA]
          exact hK'
       iterate 3
        apply Flow.mv _ rfl
        · intro K' hK'
          simp only [sqA, Act.eval, arr_getD, List.getD_cons_zero, List.getD_cons_succ]
          exact hK'
       apply Flow.move rfl
       go_wp2_with fail
       refine (hk.2 _ _ _ (hbl.trans (Bl.refl _).drew) hlt2 hlt).mono ?_
       rintro e w3 ⟨rfl, HB1⟩
       obtain ⟨hc3, hf3⟩ := HB1.rule
       go_wp2_with fail
       refine ⟨fun _ => (by first | exact HB1 | exact Bl.refl _), ?_⟩
       iterate 1
        apply Flow.calm2 _ _ rfl rfl
        · intro w' hb' K' hK'
          obtain ⟨hc', hf'⟩ := hb'.rule
          go_simp
          try go_ints
          exact hK'
        · intro K' hK'
          simp only [sqA]
          exact hK'
       refine Flow.tail _ rfl ?_
       go_wp2_with fail
       have hb4 : Bl wr w3 := ((Bl.refl _).drew).trans HB1
       have hst : madeInv w W H f (w3.setCell ⟨w.heap.size + 1, i, none⟩ (Value.bool (f x y))) (i + 1) := by
        refine ⟨(hbl.trans hb4).setCell (by simp) _, ⟨_, (hblk.bl hb4).set_ i _, by simpa using hsz, fun j hj => ?_⟩, (hb2.bl hb4).far (by simp) _, (hb0.bl hb4).far (by simp) _⟩
        by_cases e : i = j
        · subst e
          rw [Hex.out, Hey.out]
          simp [hsz, hilt]
        · rw [Array.getElem?_setIfInBounds_ne e]; exact Hcs.out j (by omega)
       have Hst := Lib.hid hst; clear hst
       exact ⟨⟨x + 1, hlt2, by go_num, by have := Hst.out; rw [Hi.out] at this; simpa [Nat.add_assoc, Hi.out] using this⟩, by simp [intOf]; omega⟩
     · go_wp2_with fail
       exact ⟨⟨y + 1, hlt, by go_num, by rw [Nat.add_mul, Nat.one_mul]; rwa [show x = W by omega] at hinv2⟩, by simp [intOf]; omega⟩
  · have k2 := hinv.2.2.1.all3
    have k0 := hinv.2.2.2.all3
    go_wp2_with fail
    refine bodyPost_ret (v := .agg #[.int .i64 W, .int .i64 H, .slice (some ⟨w.heap.size + 1, 0, none⟩) (W * H) (W * H)]) (by simp [results, Tryz.results133, go_sem, k0]) rfl ?_
    obtain ⟨hbl, ⟨cs, hblk, hsz, hcs⟩, _, _⟩ := hinv
    refine ⟨_, rfl, ⟨_, _, rfl, ?_, fun ad h => by injection h with h; subst h; simp⟩, ?_⟩
    · have hb' := ((hblk.far (p := ⟨w.heap.size, 0, none⟩) (by simp) (.int .i64 W)).far (p := ⟨w.heap.size, 1, none⟩) (by simp) (.int .i64 H)).far (p := ⟨w.heap.size, 2, none⟩) (by simp) (.slice (some ⟨w.heap.size + 1, 0, none⟩) (W * H) (W * H))
      have hl : cs.toList = (grid W H f).map Value.bool := by
       apply List.ext_getElem?
       intro i
       rcases Nat.lt_or_ge i (W * H) with h | h
       · rw [List.getElem?_map, grid_at W H f i h]
         have := hcs i (by have := Nat.mul_comm W H; rw [show y = H by omega]; omega)
         simpa using this
       · rw [List.getElem?_eq_none (by simpa [hsz] using h), List.getElem?_eq_none (by simpa [grid_length] using h)]
      rw [← hl]
      exact hb'.reads (W * H) 1 (by omega)
    · exact ((hbl.setCell (by simp) _).setCell (by simp) _).setCell (by simp) _

def MadeInv (w : World) (W H : Nat) (f : Nat → Nat → Bool) (wr : World) (n : Nat) : Prop :=
 Bl w wr ∧ ∃ v, Blk wr w.heap.size 24 #[.int .i64 0, .int .i64 0, .slice none 0 0] ∧ Blk wr (w.heap.size + 1) 24 #[.int .i64 W, .int .i64 H, v] ∧
  w.heap.size + 2 ≤ wr.heap.size ∧ wr.ownsRow (w.heap.size + 2) 4 1 v n ((gridTo W f n).map Value.bool)

set_option maxRecDepth 100000 in
set_option maxHeartbeats 1000000 in
theorem Made_any (W H : Nat) (f : Nat → Nat → Bool) (k : FuncId) (cap : Array Value) (w : World) (hW : W ≤ 1048576) (hH : H ≤ 1048576) (hWH : W * H ≤ 17179869184) (hk : Paints Tryz.prog k cap Value.bool w W H f) :
 Calls Tryz.prog 45 #[.int .i64 W, .int .i64 H, .func (.func k) #[] cap] w fun e w' => ∃ v, e = .returned v ∧ NPage w.heap.size w' v W H ((grid W H f).map Value.bool) ∧ Bl w w' := by
 have hent := hk.1
 have inv0 : MadeInv w W H f ((w.alloc (.cells #[.int .i64 0, .int .i64 0, .slice none 0 0] 24)).alloc (.cells #[.int .i64 W, .int .i64 H, .slice none 0 0] 24)) 0 := by
  have b0 := Blk.new w 24 #[.int .i64 0, .int .i64 0, .slice none 0 0]
  have b1 := Blk.new (w.alloc (.cells #[.int .i64 0, .int .i64 0, .slice none 0 0] 24)) 24 #[.int .i64 W, .int .i64 H, .slice none 0 0]
  simp only [World.size_alloc] at b1
  exact ⟨((Bl.refl w).alloc _).alloc _, _, b0.alloc _, b1, by simp, World.ownsRow_nil _ _ _ _⟩
 have Inv0 := Lib.hid inv0; clear inv0
 go_enter Tryz.func45, Tryz.ntmps45
 go_wp2_with fail
 go_loopw [14] (fun u wr => ∃ y : Nat, y ≤ H ∧ u = .int .i64 y ∧ MadeInv w W H f wr (y * W)) (fun u _ => H - (intOf u).toNat)
 case atStart => exact ⟨0, Nat.zero_le _, rfl, by simpa using Inv0.out⟩
 case round =>
  obtain ⟨y, hy, rfl, hinv⟩ := hrel
  by_cases hlt : y < H
  · go_wp2_with fail
    go_loopw [18] (fun u wr => ∃ x : Nat, x ≤ W ∧ u = .int .i64 x ∧ MadeInv w W H f wr (y * W + x)) (fun u _ => W - (intOf u).toNat)
    case atStart => exact ⟨0, Nat.zero_le _, rfl, by simpa using hinv⟩
    case round =>
     obtain ⟨x, hx, rfl, hinv2⟩ := hrel
     by_cases hlt2 : x < W
     · obtain ⟨hbl, v, hb0, hb1, hsz, hown⟩ := hinv2
       have k1 := hb1.all3
       have hilt := place_lt hlt2 hlt
       have hgs := gridTo_succ W f Value.bool y x hlt2
       have Hgs := Lib.hid hgs; clear hgs
       go_wp2_with fail
       refine wp_region_flow [(true, 0), (true, 1), (true, 2), (true, 3), (true, 4), (false, 5), (false, 6), (false, 7), (true, 8), (false, 9)] (fun i => i == 7 || i == 9) (by kernel_rfl) (by kernel_rfl) (by kernel_rfl) (by kernel_rfl) ?_
       iterate 2
        apply Flow.calm2 _ _ rfl rfl
        · intro w' hb' K' hK'
          obtain ⟨hc', hf'⟩ := hb'.rule
          go_simp
          try go_ints
          exact hK'
        · intro K' hK'
          simp only [sqA]
          exact hK'
       iterate 3
        apply Flow.mv _ rfl
        · intro K' hK'
          simp only [sqA, Act.eval, arr_getD, List.getD_cons_zero, List.getD_cons_succ]
          exact hK'
       apply Flow.move rfl
       go_wp2_with fail
       refine (hk.2 _ _ _ (hbl.trans (Bl.refl _).drew) hlt2 hlt).mono ?_
       rintro e w3 ⟨rfl, HB1⟩
       have hb3 : Bl wr w3 := ((Bl.refl _).drew).trans HB1
       go_wp2_with fail
       refine ⟨fun _ => (by first | exact HB1 | exact Bl.refl _), ?_⟩
       apply Flow.move rfl
       go_wp2_with fail
       first | refine ⟨fun _ => ?_, ?_⟩ | refine ⟨?_, ?_⟩
       · repeat' (first | exact Bl.refl _ | refine Bl.drewL ?_ | refine Bl.drew ?_ | refine Bl.alloc ?_ _)
       apply Flow.move rfl
       refine wpList_append_one rfl (.tmp 22) (.tmp 27) 22 rfl 4 (.bool false) 1 Tryz.underlying22 info_bool rfl (w.heap.size + 2) v (y * W + x) _ rfl _ rfl rfl (hbl.trans hb3) (by omega) (Nat.le_trans hsz hb3.le) (own_bl hown hb3) (by omega) (by unfold maxLen; omega) ?_
       intro v' w4 hown' hbw4 hg4
       obtain ⟨A', c', rfl, _⟩ := own_reads hown'
       have hne : ∀ g, g < w.heap.size + 2 → some g ≠ v.ownBlock := fun g hg e => by have := (hown.lt g e.symm).1; omega
       have hb0' := ((hb0.bl hb3).alloc _).grown hg4 (hne _ (by omega))
       have hb1' := ((hb1.bl hb3).alloc _).grown hg4 (hne _ (by omega))
       have k4 := hb1'.all3
       have hs4 : w.heap.size + 2 ≤ w4.heap.size := by have h5 := hg4.size; have h6 := hb3.le; simp at h5; omega
       go_wp2_with fail
       refine ⟨fun hcl => absurd hcl (by decide), ?_⟩
       iterate 1
        apply Flow.calm2 _ _ rfl rfl
        · intro w' hb' K' hK'
          obtain ⟨hc', hf'⟩ := hb'.rule
          go_simp
          try go_ints
          exact hK'
        · intro K' hK'
          simp only [sqA]
          exact hK'
       refine Flow.tail _ rfl ?_
       go_wp2_with fail
       have hst : MadeInv w W H f (w4.setCell ⟨w.heap.size + 1, 2, none⟩ (.slice A' (y * W + x + 1) c')) (y * W + x + 1) := by
        refine ⟨hbw4.setCell (by simp) _, _, hb0'.far (by simp) _, by simpa using hb1'.set_ 2 (.slice A' (y * W + x + 1) c'), by simpa using hs4, ?_⟩
        rw [Hgs.out]
        exact ownsRow_setCell_below hown' (by simp) _
       have Hst := Lib.hid hst; clear hst
       exact ⟨⟨x + 1, hlt2, by go_num, Hst.out⟩, by simp [intOf]; omega⟩
     · go_wp2_with fail
       exact ⟨⟨y + 1, hlt, by go_num, by rw [Nat.add_mul, Nat.one_mul]; rwa [show x = W by omega] at hinv2⟩, by simp [intOf]; omega⟩
  · obtain ⟨hbl, v, hb0, hb1, hsz, hown⟩ := hinv
    obtain rfl : y = H := by omega
    have k1 := hb1.all3
    have k0 := hb0.all3
    obtain ⟨A, c, rfl, hrd⟩ := own_reads hown
    go_wp2_with fail
    refine bodyPost_ret (v := .agg #[.int .i64 W, .int .i64 y, .slice A (y * W) c]) (by simp [results, Tryz.results45, go_sem, k0]) rfl ?_
    have hb' : Bl w (((wr.setCell ⟨w.heap.size, 0, none⟩ (.int .i64 W)).setCell ⟨w.heap.size, 1, none⟩ (.int .i64 y)).setCell ⟨w.heap.size, 2, none⟩ (.slice A (y * W) c)) := ((hbl.setCell (by simp) _).setCell (by simp) _).setCell (by simp) _
    have ho := ownsRow_setCell_below (ownsRow_setCell_below (ownsRow_setCell_below hown (a := ⟨w.heap.size, 0, none⟩) (by simp) (.int .i64 W)) (a := ⟨w.heap.size, 1, none⟩) (by simp) (.int .i64 y)) (a := ⟨w.heap.size, 2, none⟩) (by simp) (.slice A (y * W) c)
    obtain ⟨A', c', e', hrd', hnw⟩ := own_new ho
    injection e' with e1 e2 e3
    subst e1
    refine ⟨_, rfl, ⟨A, c, by rw [Nat.mul_comm W y], ?_, fun ad h => by have := hnw ad h; omega⟩, hb'⟩
    unfold grid
    rw [Nat.mul_comm W y]
    exact hrd'

/-! ### Gray -/
end Go.Proofs.YthobmednnocklaaGreatDoor


/-! Whether two pages are the same; pages without anything; 'small'. -/
namespace Go.Proofs.YthobmednnocklaaGreatDoor
open Go.RowKit

/-! ### slices.Equal at bool -/
/-! The same page. -/
/-! Nothing at all. -/
/-! ### slices.Equal at byte -/
/-! The same page. -/
/-! Nothing at all. -/
/-! ### bitsIs -/
/-- A function value that makes a page. -/
def MakesPage (P : Program) (k : FuncId) (cap : Array Value) (w : World) (W H : Nat) (cells : List Value) : Prop :=
 (∀ args w, (callFunc k args).run P w = .ok (.enter k args) w) ∧ ∀ wx, Bl w wx → Calls P k cap wx fun e w' => ∃ v, e = .returned v ∧ IsPage w' v W H cells ∧ Bl wx w'

end Go.Proofs.YthobmednnocklaaGreatDoor


/-! The sum of a box, the square around a place, the means of a page. -/
namespace Go.Proofs.YthobmednnocklaaGreatDoor
open Go.RowKit

/-! ### plain -/
/-- The sum of the values of a box: rows y to y + h, columns x to x + l. -/
def boxSum (v : Nat → Int) (W x y l h : Nat) : Int := sat v W (y + h) (x + l) - sat v W y (x + l) - sat v W (y + h) x + sat v W y x

/-! ### (*Sums).In -/
set_option maxRecDepth 100000 in
set_option maxHeartbeats 1000000 in
theorem sumsIn_any (p g W H : Nat) (v : Nat → Int) (hv : ∀ i, 0 ≤ v i ∧ v i ≤ 255) (x y l h : Nat) (w : World) (hs : IsSums w p g W H v) (hW : W ≤ 4000) (hH : H ≤ 4000) (hx : x + l ≤ W) (hy : y + h ≤ H) :
 Calls Tryz.prog 311 #[.pointer (some ⟨p, 0, none⟩), .agg #[.int .i64 x, .int .i64 y, .int .i64 l, .int .i64 h]] w fun e w' => e = .returned (.int .i64 (boxSum v W x y l h)) ∧ Bl w w' := by
 obtain ⟨hp, cs, hc, hz, hcs⟩ := hs
 have kp := hp.all3
 have lp := hp.lt
 have lg := hc.lt
 have cell : ∀ Y X, Y ≤ H → X ≤ W → Y * (W + 1) + X < (W + 1) * (H + 1) ∧ w.cell? ⟨g, Y * (W + 1) + X, none⟩ = some (.int .i64 (sat v W Y X)) := by
  intro Y X hY hX
  have m := Nat.mul_le_mul_right (W + 1) hY
  have e : (W + 1) * (H + 1) = H * (W + 1) + (W + 1) := by rw [Nat.mul_comm, Nat.add_mul]; omega
  have hlt : Y * (W + 1) + X < (W + 1) * (H + 1) := by omega
  exact ⟨hlt, by rw [hc.cell, hcs _ hlt, satAt_eq v W Y X hX]⟩
 have hN : (W + 1) * (H + 1) ≤ 16008001 := by
  have := Nat.mul_le_mul (show W + 1 ≤ 4001 by omega) (show H + 1 ≤ 4001 by omega)
  omega
 obtain ⟨n1, c1⟩ := cell (y + h) (x + l) hy hx
 obtain ⟨n2, c2⟩ := cell y (x + l) (by omega) hx
 obtain ⟨n3, c3⟩ := cell (y + h) x hy (by omega)
 obtain ⟨n4, c4⟩ := cell y x (by omega) (by omega)
 have b1 := sat_bd hv W (x + l) (by omega) (y + h)
 have b2 := sat_bd hv W (x + l) (by omega) y
 have b3 := sat_bd hv W x (by omega) (y + h)
 have b4 := sat_bd hv W x (by omega) y
 have hbox : boxSum v W x y l h = sat v W (y + h) (x + l) - sat v W y (x + l) - sat v W (y + h) x + sat v W y x := rfl
 generalize hs1 : sat v W (y + h) (x + l) = s1 at c1 b1 hbox
 generalize hs2 : sat v W y (x + l) = s2 at c2 b2 hbox
 generalize hs3 : sat v W (y + h) x = s3 at c3 b3 hbox
 generalize hs4 : sat v W y x = s4 at c4 b4 hbox
 generalize hi1 : (y + h) * (W + 1) + (x + l) = i1 at n1 c1
 generalize hi2 : y * (W + 1) + (x + l) = i2 at n2 c2
 generalize hi3 : (y + h) * (W + 1) + x = i3 at n3 c3
 generalize hi4 : y * (W + 1) + x = i4 at n4 c4
 have t1 : ((y : Int) + (h : Int)) * ((W : Int) + 1) + ((x : Int) + (l : Int)) = (i1 : Int) := by rw [← hi1]; simp
 have t2 : (y : Int) * ((W : Int) + 1) + ((x : Int) + (l : Int)) = (i2 : Int) := by rw [← hi2]; simp
 have t3 : ((y : Int) + (h : Int)) * ((W : Int) + 1) + (x : Int) = (i3 : Int) := by rw [← hi3]; simp
 have t4 : (y : Int) * ((W : Int) + 1) + (x : Int) = (i4 : Int) := by rw [← hi4]; simp
 have eN : ((W : Int) + 1) * ((H : Int) + 1) = (((W + 1) * (H + 1) : Nat) : Int) := by simp
 have l1 : (i1 : Int) < ((W : Int) + 1) * ((H : Int) + 1) := by omega
 have l2 : (i2 : Int) < ((W : Int) + 1) * ((H : Int) + 1) := by omega
 have l3 : (i3 : Int) < ((W : Int) + 1) * ((H : Int) + 1) := by omega
 have l4 : (i4 : Int) < ((W : Int) + 1) * ((H : Int) + 1) := by omega
 have p1 : (0 : Int) ≤ ((y : Int) + (h : Int)) * ((W : Int) + 1) ∧ ((y : Int) + (h : Int)) * ((W : Int) + 1) ≤ 16008001 := by
  have := Int.natCast_mul (y + h) (W + 1); simp at this; omega
 have p2 : (0 : Int) ≤ (y : Int) * ((W : Int) + 1) ∧ (y : Int) * ((W : Int) + 1) ≤ 16008001 := by
  have := Int.natCast_mul y (W + 1); simp at this; omega
 have Hbox := Lib.hid hbox
 clear hbox hs1 hs2 hs3 hs4 hi1 hi2 hi3 hi4 cell hcs hv eN
 go_enter Tryz.func311, Tryz.ntmps311
 go_wp2_with fail
 refine wp_region_flow [(true, 0), (true, 1), (true, 2), (true, 3), (true, 4), (true, 5), (true, 6), (true, 7), (true, 8), (true, 9), (true, 10), (true, 11)] (fun _ => false) (by kernel_rfl) (by kernel_rfl) (by kernel_rfl) (by kernel_rfl) ?_
 iterate 10
  apply Flow.calm2 _ _ rfl rfl
  · intro w' hb' K' hK'
    obtain ⟨hc', hf'⟩ := hb'.rule
    go_simp
    try go_ints
    exact hK'
  · intro K' hK'
    simp only [sqA]
    exact hK'
 iterate 2
  apply Flow.asg _ rfl
  · intro K' hK'
    simp only [sqA, Act.eval, arr_getD, List.getD_cons_zero, List.getD_cons_succ]
    exact hK'
 refine Flow.done ?_
 go_wp2_with fail
 refine wp_region_flow [(true, 0), (true, 1), (true, 2), (true, 3), (true, 4), (true, 5), (true, 6), (true, 7), (true, 8), (true, 9), (true, 10), (true, 11), (true, 12), (true, 13), (true, 14), (true, 15), (true, 16), (true, 17), (true, 18), (true, 19), (true, 20), (true, 21), (true, 22), (true, 23), (true, 24), (true, 25), (true, 26), (true, 27), (true, 28), (true, 29), (true, 30), (true, 31), (true, 32), (true, 33), (true, 34), (true, 35), (true, 36), (true, 37), (true, 38), (true, 39), (true, 40), (true, 41), (true, 42), (true, 43), (true, 44), (true, 45), (true, 46), (true, 47), (true, 48), (true, 49), (true, 50), (true, 51)] (fun _ => false) (by kernel_rfl) (by kernel_rfl) (by kernel_rfl) (by kernel_rfl) ?_
 iterate 1
  apply Flow.mv _ rfl
  · intro K' hK'
    simp only [sqA, Act.eval, arr_getD, List.getD_cons_zero]
    exact hK'
 iterate 3
  apply Flow.calm2 _ _ rfl rfl
  · intro w' hb' K' hK'
    obtain ⟨hc', hf'⟩ := hb'.rule
    go_simp
    try go_ints
    exact hK'
  · intro K' hK'
    simp only [sqA]
    exact hK'
 iterate 2
  apply Flow.mv _ rfl
  · intro K' hK'
    simp only [sqA, Act.eval, arr_getD, List.getD_cons_zero, List.getD_cons_succ]
    exact hK'
 iterate 1
  apply Flow.calm2 _ _ rfl rfl
  · intro w' hb' K' hK'
    obtain ⟨hc', hf'⟩ := hb'.rule
    go_simp
    try go_ints
    exact hK'
  · intro K' hK'
    simp only [sqA]
    exact hK'
 iterate 1
  apply Flow.mv _ rfl
  · intro K' hK'
    simp only [sqA, Act.eval, arr_getD, List.getD_cons_zero, List.getD_cons_succ]
    exact hK'
 iterate 3
  apply Flow.calm2 _ _ rfl rfl
  · intro w' hb' K' hK'
    obtain ⟨hc', hf'⟩ := hb'.rule
    go_simp
    try go_ints
    exact hK'
  · intro K' hK'
    simp only [sqA]
    exact hK'
 iterate 1
  apply Flow.mv _ rfl
  · intro K' hK'
    simp only [sqA, Act.eval, arr_getD, List.getD_cons_zero]
    exact hK'
 iterate 5
  apply Flow.calm2 _ _ rfl rfl
  · intro w' hb' K' hK'
    obtain ⟨hc', hf'⟩ := hb'.rule
    go_simp
    try go_ints
    exact hK'
  · intro K' hK'
    simp only [sqA]
    exact hK'
 iterate 1
  apply Flow.mv _ rfl
  · intro K' hK'
    simp only [sqA, Act.eval, arr_getD, List.getD_cons_zero, List.getD_cons_succ]
    exact hK'
 iterate 1
  apply Flow.calm2 _ _ rfl rfl
  · intro w' hb' K' hK'
    obtain ⟨hc', hf'⟩ := hb'.rule
    go_simp
    try go_ints
    exact hK'
  · intro K' hK'
    simp only [sqA]
    exact hK'
 iterate 1
  apply Flow.mv _ rfl
  · intro K' hK'
    simp only [sqA, Act.eval, arr_getD, List.getD_cons_zero, List.getD_cons_succ]
    exact hK'
 iterate 4
  apply Flow.calm2 _ _ rfl rfl
  · intro w' hb' K' hK'
    obtain ⟨hc', hf'⟩ := hb'.rule
    go_simp
    try go_ints
    exact hK'
  · intro K' hK'
    simp only [sqA]
    exact hK'
 iterate 1
  apply Flow.mv _ rfl
  · intro K' hK'
    simp only [sqA, Act.eval, arr_getD, List.getD_cons_zero]
    exact hK'
 iterate 3
  apply Flow.calm2 _ _ rfl rfl
  · intro w' hb' K' hK'
    obtain ⟨hc', hf'⟩ := hb'.rule
    go_simp
    try go_ints
    exact hK'
  · intro K' hK'
    simp only [sqA]
    exact hK'
 iterate 2
  apply Flow.mv _ rfl
  · intro K' hK'
    simp only [sqA, Act.eval, arr_getD, List.getD_cons_zero, List.getD_cons_succ]
    exact hK'
 iterate 7
  apply Flow.calm2 _ _ rfl rfl
  · intro w' hb' K' hK'
    obtain ⟨hc', hf'⟩ := hb'.rule
    go_simp
    try go_ints
    exact hK'
  · intro K' hK'
    simp only [sqA]
    exact hK'
 iterate 1
  apply Flow.mv _ rfl
  · intro K' hK'
    simp only [sqA, Act.eval, arr_getD, List.getD_cons_zero]
    exact hK'
 iterate 5
  apply Flow.calm2 _ _ rfl rfl
  · intro w' hb' K' hK'
    obtain ⟨hc', hf'⟩ := hb'.rule
    go_simp
    try go_ints
    exact hK'
  · intro K' hK'
    simp only [sqA]
    exact hK'
 iterate 1
  apply Flow.mv _ rfl
  · intro K' hK'
    simp only [sqA, Act.eval, arr_getD, List.getD_cons_zero, List.getD_cons_succ]
    exact hK'
 iterate 7
  apply Flow.calm2 _ _ rfl rfl
  · intro w' hb' K' hK'
    obtain ⟨hc', hf'⟩ := hb'.rule
    go_simp
    try go_ints
    exact hK'
  · intro K' hK'
    simp only [sqA]
    exact hK'
 iterate 1
  apply Flow.asg _ rfl
  · intro K' hK'
    simp only [sqA, Act.eval, arr_getD, List.getD_cons_zero, List.getD_cons_succ]
    exact hK'
 refine Flow.done ?_
 go_wp2_with fail
 go_ret
 exact ⟨ret_int Hbox.out.symm, (((Bl.refl _).alloc _).drew).drew⟩

/-! ### (*Sums).Around -/
end Go.Proofs.YthobmednnocklaaGreatDoor


/-! page.Means; slices.Equal of numbers; blank pages. -/
namespace Go.Proofs.YthobmednnocklaaGreatDoor
open Go.RowKit

/-- A byte list reads as bytes. -/
def Bytes (zs : List Int) : Prop := ∀ z ∈ zs, 0 ≤ z ∧ z ≤ 255
def valOf (zs : List Int) (i : Nat) : Int := zs.getD i 0
theorem Bytes.at {zs : List Int} (h : Bytes zs) (i : Nat) : 0 ≤ valOf zs i ∧ valOf zs i ≤ 255 := by
 unfold valOf
 rcases Nat.lt_or_ge i zs.length with hl | hl
 · have := h zs[i] (List.getElem_mem hl)
   simpa [List.getD, hl] using this
 · simp [List.getD, List.getElem?_eq_none hl]

end Go.Proofs.YthobmednnocklaaGreatDoor


/-! At, halving and pasting. -/
namespace Go.Proofs.YthobmednnocklaaGreatDoor
open Go.RowKit

/-! ### plain -/
/-- The ink at a place, also beyond the page. -/
def atI (bs : List Bool) (W H x y : Int) : Bool := decide (0 ≤ x ∧ x < W ∧ 0 ≤ y ∧ y < H) && bs.getD (y.toNat * W.toNat + x.toNat) false
def pix (bs : List Bool) (W x y : Nat) : Bool := bs.getD (y * W + x) false
theorem atI_in (bs : List Bool) (W H x y : Nat) (hx : x < W) (hy : y < H) : atI bs W H x y = pix bs W x y := by
 unfold atI pix
 have : decide (0 ≤ (x : Int) ∧ (x : Int) < W ∧ 0 ≤ (y : Int) ∧ (y : Int) < H) = true := by simp; omega
 rw [this]; simp
theorem atI_out (bs : List Bool) (W H x y : Int) (h : ¬ (0 ≤ x ∧ x < W ∧ 0 ≤ y ∧ y < H)) : atI bs W H x y = false := by
 unfold atI; simp only [h]; simp

/-- The cell of a place. -/
theorem Reads.place {w : World} {A : Option Addr} {W H : Nat} {bs : List Bool} (h : Reads w 1 A (W * H) (bs.map .bool)) {x y : Nat} (hx : x < W) (hy : y < H) :
 ∃ ad, A = some ad ∧ w.cell? (ad.add (y * W + x)) = some (.bool (pix bs W x y)) := by
 have hk := place_lt hx hy
 obtain ⟨ad, u, e, hu, hc⟩ := h.at_ hk
 refine ⟨ad, e, ?_⟩
 have hl : y * W + x < bs.length := by have := h.1; simp at this; omega
 have hu' : u = .bool (pix bs W x y) := by simpa [pix, List.getD, hl] using hu.symm
 rw [hc, hu']

/-! ### bedref2.At -/
set_option maxRecDepth 100000 in
set_option maxHeartbeats 1000000 in
theorem at_any (W H : Nat) (A : Option Addr) (c : Nat) (bs : List Bool) (x y : Int) (w : World) (hr : Reads w 1 A (W * H) (bs.map .bool)) (hW : W ≤ 4000) (hH : H ≤ 4000) :
 Calls Tryz.prog 47 #[.agg #[.int .i64 W, .int .i64 H, .slice A (W * H) c], .int .i64 x, .int .i64 y] w fun e w' => e = .returned (.bool (atI bs W H x y)) ∧ Bl w w' := by
 cases h1 : inB x 0 ((W : Int) - 1)
 case false =>
  have ha : atI bs W H x y = false := atI_out _ _ _ _ _ (by have := inB_false.1 h1; omega)
  have Ha := Lib.hid ha; clear ha hr
  go_enter Tryz.func47, Tryz.ntmps47
  go_wp2_with (go_at_call 12; refine (in_any _ _ _ _).mono ?_; rintro e w' ⟨rfl, rfl⟩)
  go_ret
  exact ⟨ret_bool Ha.out.symm, (Bl.refl _).alloc _⟩
 case true =>
  cases h2 : inB y 0 ((H : Int) - 1)
  case false =>
   have ha : atI bs W H x y = false := atI_out _ _ _ _ _ (by have := inB_false.1 h2; omega)
   have Ha := Lib.hid ha; clear ha hr
   go_enter Tryz.func47, Tryz.ntmps47
   go_wp2_with (go_at_call 12; refine (in_any _ _ _ _).mono ?_; rintro e w' ⟨rfl, rfl⟩)
   go_ret
   exact ⟨ret_bool Ha.out.symm, (Bl.refl _).alloc _⟩
  case true =>
   obtain ⟨a1, a2⟩ := inB_true.1 h1
   obtain ⟨b1, b2⟩ := inB_true.1 h2
   obtain ⟨x, rfl⟩ := Int.eq_ofNat_of_zero_le a1
   obtain ⟨y, rfl⟩ := Int.eq_ofNat_of_zero_le b1
   have hx : x < W := by omega
   have hy : y < H := by omega
   have ha := atI_in bs W H x y hx hy
   obtain ⟨ad, rfl, hc⟩ := hr.place hx hy
   have hk := place_lt hx hy
   obtain ⟨k, hkk⟩ : ∃ k, k = y * W + x := ⟨_, rfl⟩
   rw [← hkk] at hc hk
   have ek : (y : Int) * (W : Int) + (x : Int) = (k : Int) := by rw [hkk]; simp
   have hkl : (k : Int) < (W : Int) * (H : Int) := by have := Int.natCast_mul W H; omega
   have hq : (0 : Int) ≤ (y : Int) * (W : Int) ∧ (y : Int) * (W : Int) ≤ 16000000 := by
    have h5 := Int.natCast_mul y W
    have h6 := Nat.mul_le_mul (show y ≤ 4000 by omega) hW
    omega
   have hlt : ad.block < w.heap.size := by have := World.block_lt_of_cell? w _ hc; rwa [block_of_add] at this
   have hc' : ∀ o, (w.alloc o).cell? (ad.add k) = some (.bool (pix bs W x y)) := fun o => ((Bl.refl w).alloc o).at hc
   have Ha := Lib.hid ha; have Hkk := Lib.hid hkk
   clear ha hkk hr
   go_enter Tryz.func47, Tryz.ntmps47
   go_wp2_with (go_at_call 12; refine (in_any _ _ _ _).mono ?_; rintro e w' ⟨rfl, rfl⟩)
   go_ret
   exact ⟨ret_bool Ha.out.symm, (Bl.refl _).alloc _⟩

end Go.Proofs.YthobmednnocklaaGreatDoor


/-! A page and an error: both outcomes under one roof; pages as grids. -/
namespace Go.Proofs.YthobmednnocklaaGreatDoor
open Go.RowKit

/-- The page that a function answers with its error: made anew, or empty. -/
def Res (B : Nat) (w : World) (err : Int) (W H : Nat) (cells : List Value) (a b : Int) (R : Option Addr) (m c : Nat) : Prop :=
 (err = 0 → NPage B w (.agg #[.int .i64 a, .int .i64 b, .slice R m c]) W H cells) ∧ (err ≠ 0 → a = 0 ∧ b = 0 ∧ R = none ∧ m = 0 ∧ c = 0)
theorem Res.bl {B : Nat} {w w' : World} {err : Int} {W H : Nat} {cells : List Value} {a b : Int} {R : Option Addr} {m c : Nat} (h : Res B w err W H cells a b R m c) (hb : Bl w w') : Res B w' err W H cells a b R m c :=
 ⟨fun e => (h.1 e).bl hb, h.2⟩
theorem Res.mono {B B' : Nat} {w : World} {err : Int} {W H : Nat} {cells : List Value} {a b : Int} {R : Option Addr} {m c : Nat} (h : Res B w err W H cells a b R m c) (hb : B' ≤ B) : Res B' w err W H cells a b R m c :=
 ⟨fun e => (h.1 e).mono hb, h.2⟩
theorem Res.zero (B : Nat) (w : World) {err : Int} (W H : Nat) (cells : List Value) (h : err ≠ 0) : Res B w err W H cells 0 0 none 0 0 :=
 ⟨fun e => absurd e h, fun _ => ⟨rfl, rfl, rfl, rfl, rfl⟩⟩
theorem Res.page {B : Nat} {w : World} {err : Int} {W H c : Nat} {R : Option Addr} {cells : List Value} (h : err = 0) (hr : Reads w 1 R (W * H) cells) (hn : ∀ ad, R = some ad → B ≤ ad.block) : Res B w err W H cells W H R (W * H) c :=
 ⟨fun _ => ⟨R, c, rfl, hr, hn⟩, fun e => absurd h e⟩

theorem MakesPage.bl {P : Program} {k : FuncId} {cap : Array Value} {w w' : World} {W H : Nat} {cells : List Value} (h : MakesPage P k cap w W H cells) (hb : Bl w w') : MakesPage P k cap w' W H cells :=
 ⟨h.1, fun wx hx => h.2 wx (hb.trans hx)⟩

/-! ### grids -/
/-! ### turned by quarters -/
theorem Res.store {B : Nat} {w : World} {err : Int} {W H : Nat} {cells : List Value} {a b : Int} {R : Option Addr} {m c : Nat} (h : Res B w err W H cells a b R m c) {p : Addr} (hp : p.block < B) (u : Value) : Res B (w.setCell p u) err W H cells a b R m c :=
 ⟨fun e => (h.1 e).store hp u, h.2⟩

end Go.Proofs.YthobmednnocklaaGreatDoor


/-! Sums of numbers, tables of numbers in memory. -/
namespace Go.Proofs.YthobmednnocklaaGreatDoor
open Go.RowKit

/-! ### sums -/
def sumN (f : Nat → Nat) : Nat → Nat
 | 0 => 0
 | n + 1 => sumN f n + f n
theorem sumN_congr {f g : Nat → Nat} : ∀ {n : Nat}, (∀ i, i < n → f i = g i) → sumN f n = sumN g n
 | 0, _ => rfl
 | n + 1, h => by
  unfold sumN
  rw [sumN_congr (n := n) (fun i hi => h i (by omega)), h n (by omega)]
theorem sumN_zero (n : Nat) : sumN (fun _ => 0) n = 0 := by
 induction n with
 | zero => rfl
 | succ n ih => simp [sumN, ih]
theorem sumN_add (f g : Nat → Nat) (n : Nat) : sumN (fun i => f i + g i) n = sumN f n + sumN g n := by
 induction n with
 | zero => rfl
 | succ n ih => simp only [sumN, ih]; omega
theorem sumN_split (f : Nat → Nat) (m n : Nat) : sumN f (m + n) = sumN f m + sumN (fun i => f (m + i)) n := by
 induction n with
 | zero => rfl
 | succ n ih => rw [← Nat.add_assoc]; simp only [sumN, ih]; omega
theorem sumN_flat (g : Nat → Nat) (W H : Nat) : sumN g (H * W) = sumN (fun y => sumN (fun x => g (y * W + x)) W) H := by
 induction H with
 | zero => simp [sumN]
 | succ H ih => rw [Nat.add_mul, Nat.one_mul, sumN_split, ih]; rfl
theorem sumN_le {f : Nat → Nat} {c : Nat} (h : ∀ i, f i ≤ c) (n : Nat) : sumN f n ≤ n * c := by
 induction n with
 | zero => simp [sumN]
 | succ n ih => have := h n; simp only [sumN, Nat.add_mul]; omega
/-! ### a table of numbers in memory -/
def tabI (N : Nat) (f : Nat → Int) : Array Value := ((List.range N).map fun k => Value.int .i64 (f k)).toArray
theorem tabI_size (N : Nat) (f : Nat → Int) : (tabI N f).size = N := by simp [tabI]
theorem tabI_get {N : Nat} (f : Nat → Int) {k : Nat} (h : k < N) : (tabI N f)[k]? = some (.int .i64 (f k)) := by simp [tabI, h]
theorem tabI_congr {N : Nat} {f g : Nat → Int} (h : ∀ k, k < N → f k = g k) : tabI N f = tabI N g := by
 unfold tabI
 congr 1
 exact List.map_congr_left fun k hk => by rw [h k (List.mem_range.1 hk)]
theorem tabI_set {N : Nat} {f g : Nat → Int} {a : Nat} {v : Int} (hg : ∀ k, k < N → g k = if k = a then v else f k) : (tabI N f).setIfInBounds a (.int .i64 v) = tabI N g := by
 apply Array.ext_getElem?
 intro i
 rcases Nat.lt_or_ge i N with h | h
 · rw [tabI_get g h, hg i h]
   by_cases e : a = i
   · subst e
     simp [tabI, h]
   · rw [Array.getElem?_setIfInBounds_ne e, tabI_get f h, if_neg (fun e' => e e'.symm)]
 · rw [Array.getElem?_eq_none (by simp [tabI_size]; exact h), Array.getElem?_eq_none (by rw [tabI_size]; exact h)]
theorem tabI_made (N : Nat) : madeCells #[.int .i64 0] N = tabI N (fun _ => 0) := by
 apply Array.ext_getElem?
 intro i
 rcases Nat.lt_or_ge i N with h | h
 · rw [tabI_get _ h]; simp [madeCells, h, Nat.mod_one]
 · rw [Array.getElem?_eq_none (by rw [size_madeCells]; exact h), Array.getElem?_eq_none (by rw [tabI_size]; exact h)]
def tabL (N : Nat) (f : Nat → Int) : List Int := (List.range N).map f
theorem tabL_len (N : Nat) (f : Nat → Int) : (tabL N f).length = N := by simp [tabL]
theorem tabL_get {N : Nat} (f : Nat → Int) {k : Nat} (h : k < N) : (tabL N f)[k]? = some (f k) := by simp [tabL, h]
theorem Blk.tabReads {w : World} {g : Nat} {t : TypeId} {N : Nat} {f : Nat → Int} (h : Blk w g t (tabI N f)) : Reads w 1 (some ⟨g, 0, none⟩) N ((tabL N f).map (.int .i64)) := by
 have := h.reads N 1 (by rw [tabI_size]; omega)
 have e : (tabI N f).toList = (tabL N f).map (.int .i64) := by simp [tabI, tabL, Function.comp_def]
 rwa [e] at this
theorem Blk.tabAt {w : World} {g : Nat} {t : TypeId} {N : Nat} {f : Nat → Int} (h : Blk w g t (tabI N f)) {k : Nat} (hk : k < N) : w.cell? ⟨g, k, none⟩ = some (.int .i64 (f k)) := (h.cell k).trans (tabI_get f hk)
theorem Blk.tabSet {w : World} {g : Nat} {t : TypeId} {N : Nat} {f f' : Nat → Int} (h : Blk w g t (tabI N f)) (a : Nat) (v : Int) (hg : ∀ k, k < N → f' k = if k = a then v else f k) : Blk (w.setCell ⟨g, a, none⟩ (.int .i64 v)) g t (tabI N f') := by
 have := h.set_ a (.int .i64 v)
 rwa [tabI_set hg] at this
end Go.Proofs.YthobmednnocklaaGreatDoor


/-! The plain law of leaning and of profiles. -/
namespace Go.Proofs.YthobmednnocklaaGreatDoor
open Go.RowKit

/-! ### a number that leans -/
/-! ### places of ink -/
def b1 (b : Bool) : Nat := if b then 1 else 0
end Go.Proofs.YthobmednnocklaaGreatDoor


/-! The plain law of ink that is moved place by place. -/
namespace Go.Proofs.YthobmednnocklaaGreatDoor
open Go.RowKit

/-! ### a table of bools in memory -/
def tabB (N : Nat) (f : Nat → Bool) : Array Value := ((List.range N).map fun k => Value.bool (f k)).toArray
theorem tabB_size (N : Nat) (f : Nat → Bool) : (tabB N f).size = N := by simp [tabB]
theorem tabB_get {N : Nat} (f : Nat → Bool) {k : Nat} (h : k < N) : (tabB N f)[k]? = some (.bool (f k)) := by simp [tabB, h]
theorem tabB_congr {N : Nat} {f g : Nat → Bool} (h : ∀ k, k < N → f k = g k) : tabB N f = tabB N g := by
 unfold tabB
 congr 1
 exact List.map_congr_left fun k hk => by rw [h k (List.mem_range.1 hk)]
theorem tabB_set {N : Nat} {f g : Nat → Bool} {a : Nat} {v : Bool} (hg : ∀ k, k < N → g k = if k = a then v else f k) : (tabB N f).setIfInBounds a (.bool v) = tabB N g := by
 apply Array.ext_getElem?
 intro i
 rcases Nat.lt_or_ge i N with h | h
 · rw [tabB_get g h, hg i h]
   by_cases e : a = i
   · subst e
     simp [tabB, h]
   · rw [Array.getElem?_setIfInBounds_ne e, tabB_get f h, if_neg (fun e' => e e'.symm)]
 · rw [Array.getElem?_eq_none (by simp [tabB_size]; exact h), Array.getElem?_eq_none (by rw [tabB_size]; exact h)]
theorem tabB_made (N : Nat) : madeCells #[.bool false] N = tabB N (fun _ => false) := by
 apply Array.ext_getElem?
 intro i
 rcases Nat.lt_or_ge i N with h | h
 · rw [tabB_get _ h]; simp [madeCells, h, Nat.mod_one]
 · rw [Array.getElem?_eq_none (by rw [size_madeCells]; exact h), Array.getElem?_eq_none (by rw [tabB_size]; exact h)]
theorem Blk.tabAtB {w : World} {g : Nat} {t : TypeId} {N : Nat} {f : Nat → Bool} (h : Blk w g t (tabB N f)) {k : Nat} (hk : k < N) : w.cell? ⟨g, k, none⟩ = some (.bool (f k)) := (h.cell k).trans (tabB_get f hk)
theorem Blk.tabSetB {w : World} {g : Nat} {t : TypeId} {N : Nat} {f f' : Nat → Bool} (h : Blk w g t (tabB N f)) (a : Nat) (v : Bool) (hg : ∀ k, k < N → f' k = if k = a then v else f k) : Blk (w.setCell ⟨g, a, none⟩ (.bool v)) g t (tabB N f') := by
 have := h.set_ a (.bool v)
 rwa [tabB_set hg] at this

/-! ### moving -/
theorem place_parts {W H k : Nat} (hk : k < W * H) : k % W < W ∧ k / W < H ∧ (k / W) * W + k % W = k := by
 have hW : 0 < W := by rcases Nat.eq_zero_or_pos W with h0 | h0; (subst h0; simp at hk); exact h0
 exact ⟨Nat.mod_lt _ hW, Nat.div_lt_of_lt_mul hk, by have := Nat.div_add_mod k W; rw [Nat.mul_comm] at this; exact this⟩
theorem at_parts {W x : Nat} (y : Nat) (hx : x < W) : (y * W + x) % W = x ∧ (y * W + x) / W = y :=
 ⟨by rw [Nat.mul_comm, Nat.mul_add_mod, Nat.mod_eq_of_lt hx], by rw [Nat.mul_comm, Nat.mul_add_div (by omega), Nat.div_eq_of_lt hx, Nat.add_zero]⟩
end Go.Proofs.YthobmednnocklaaGreatDoor


/-! The plain law of counts and of bounds. -/
namespace Go.Proofs.YthobmednnocklaaGreatDoor
open Go.RowKit

/-! ### counts -/
theorem b1_le (b : Bool) : b1 b ≤ 1 := by unfold b1; split <;> omega
def rowN (bs : List Bool) (W y : Nat) : Nat := sumN (fun x => b1 (pix bs W x y)) W
def colN (bs : List Bool) (W H x : Nat) : Nat := sumN (fun y => b1 (pix bs W x y)) H
def cntBy (bs : List Bool) (num : Nat → Nat) (m k : Nat) : Nat := sumN (fun i => b1 (bs.getD i false && decide (num i = k))) m
theorem cntBy_succ (bs : List Bool) (num : Nat → Nat) (m k : Nat) : cntBy bs num (m + 1) k = cntBy bs num m k + b1 (bs.getD m false && decide (num m = k)) := rfl
theorem cntBy_le (bs : List Bool) (num : Nat → Nat) (m k : Nat) : cntBy bs num m k ≤ m := by
 have := sumN_le (f := fun i => b1 (bs.getD i false && decide (num i = k))) (c := 1) (fun i => b1_le _) m
 simpa [cntBy] using this
theorem colN_le (bs : List Bool) (W H x : Nat) : colN bs W H x ≤ H := by
 have := sumN_le (f := fun y => b1 (pix bs W x y)) (c := 1) (fun i => b1_le _) H
 simpa [colN] using this
theorem sumN_pick (f : Nat → Nat) (n k : Nat) : sumN (fun y => if y = k then f y else 0) n = if k < n then f k else 0 := by
 induction n with
 | zero => simp [sumN]
 | succ n ih =>
  simp only [sumN, ih]
  by_cases h : n = k
  · subst h
    rw [if_neg (by omega), if_pos rfl, if_pos (by omega)]; omega
  · rw [if_neg h]
    by_cases h2 : k < n
    · rw [if_pos h2, if_pos (by omega)]; omega
    · rw [if_neg h2, if_neg (by omega)]
theorem cntBy_cols (bs : List Bool) (W H k : Nat) (hk : k < W) : cntBy bs (fun i => i % W) (W * H) k = colN bs W H k := by
 unfold cntBy
 rw [Nat.mul_comm, sumN_flat]
 refine sumN_congr fun y _ => ?_
 have e : ∀ x, x < W → b1 (bs.getD (y * W + x) false && decide ((y * W + x) % W = k)) = if x = k then b1 (pix bs W x y) else 0 := by
  intro x hx
  rw [(at_parts y hx).1]
  by_cases h : x = k
  · rw [if_pos h, decide_eq_true h, Bool.and_true]; rfl
  · rw [if_neg h, decide_eq_false h, Bool.and_false]; rfl
 rw [sumN_congr e, sumN_pick (fun x => b1 (pix bs W x y)), if_pos hk]
/-- Ink in a box. -/
def inkN (bs : List Bool) (W X Y BW BH : Nat) : Nat := sumN (fun j => sumN (fun i => b1 (pix bs W (X + i) (Y + j))) BW) BH
theorem ink_col (bs : List Bool) (W H x : Nat) : inkN bs W x 0 1 H = colN bs W H x := by
 unfold inkN colN
 simp [sumN]
theorem sumN_pos (f : Nat → Nat) : ∀ n, 0 < sumN f n ↔ ∃ i, i < n ∧ 0 < f i
 | 0 => by simp [sumN]
 | n + 1 => by
  have ih := sumN_pos f n
  simp only [sumN]
  constructor
  · intro h
    by_cases h2 : 0 < f n
    · exact ⟨n, by omega, h2⟩
    · obtain ⟨i, hi, h3⟩ := ih.1 (by omega)
      exact ⟨i, by omega, h3⟩
  · rintro ⟨i, hi, h3⟩
    by_cases h2 : i = n
    · subst h2; omega
    · have := ih.2 ⟨i, by omega, h3⟩; omega
theorem b1_pos (b : Bool) : 0 < b1 b ↔ b = true := by cases b <;> simp [b1]
theorem rowN_pos (bs : List Bool) (W y : Nat) : 0 < rowN bs W y ↔ ∃ x, x < W ∧ pix bs W x y = true := by
 unfold rowN; rw [sumN_pos]; simp only [b1_pos]
theorem colN_pos (bs : List Bool) (W H x : Nat) : 0 < colN bs W H x ↔ ∃ y, y < H ∧ pix bs W x y = true := by
 unfold colN; rw [sumN_pos]; simp only [b1_pos]

/-! ### ends -/
def Ends (f : Nat → Nat) (N x r : Nat) : Prop := (x < N ∧ 0 < f x ∧ ∀ j, j < x → f j = 0) ∧ (r < N ∧ 0 < f r ∧ ∀ j, r < j → j < N → f j = 0)
def NoEnds (f : Nat → Nat) (N : Nat) : Prop := ∀ j, j < N → f j = 0
theorem Ends.same {f : Nat → Nat} {N x r x' r' : Nat} (h : Ends f N x r) (k : Ends f N x' r') : x = x' ∧ r = r' := by
 obtain ⟨⟨h1, h2, h3⟩, h4, h5, h6⟩ := h
 obtain ⟨⟨k1, k2, k3⟩, k4, k5, k6⟩ := k
 constructor
 · rcases Nat.lt_trichotomy x x' with c | c | c
   · have := k3 x c; omega
   · exact c
   · have := h3 x' c; omega
 · rcases Nat.lt_trichotomy r r' with c | c | c
   · have := h6 r' c k4; omega
   · exact c
   · have := k6 r c h4; omega
theorem Ends.not {f : Nat → Nat} {N x r : Nat} (h : Ends f N x r) (k : NoEnds f N) : False := by
 have := k x h.1.1
 have := h.1.2.1
 omega

/-! ### bounds -/
def BoundsIs (bs : List Bool) (W H : Nat) (is : Bool) (X Y BW BH : Int) : Prop :=
 (is = false ∧ NoEnds (colN bs W H) W ∧ X = 0 ∧ Y = 0 ∧ BW = 0 ∧ BH = 0) ∨
 (is = true ∧ ∃ l r t b : Nat, Ends (colN bs W H) W l r ∧ Ends (rowN bs W) H t b ∧ X = l ∧ Y = t ∧ BW = (r : Int) - l + 1 ∧ BH = (b : Int) - t + 1)
theorem BoundsIs.same {bs : List Bool} {W H : Nat} {is is' : Bool} {X Y BW BH X' Y' BW' BH' : Int} (h : BoundsIs bs W H is X Y BW BH) (k : BoundsIs bs W H is' X' Y' BW' BH') : is = is' ∧ X = X' ∧ Y = Y' ∧ BW = BW' ∧ BH = BH' := by
 rcases h with ⟨h1, h2, h3, h4, h5, h6⟩ | ⟨h1, l, r, t, b, h2, h3, h4, h5, h6, h7⟩ <;> rcases k with ⟨k1, k2, k3, k4, k5, k6⟩ | ⟨k1, l', r', t', b', k2, k3, k4, k5, k6, k7⟩
 · exact ⟨by rw [h1, k1], by omega, by omega, by omega, by omega⟩
 · exact (k2.not h2).elim
 · exact (h2.not k2).elim
 · obtain ⟨e1, e2⟩ := h2.same k2
   obtain ⟨e3, e4⟩ := h3.same k3
   exact ⟨by rw [h1, k1], by omega, by omega, by omega, by omega⟩
theorem BoundsIs.bd {bs : List Bool} {W H : Nat} {is : Bool} {X Y BW BH : Int} (h : BoundsIs bs W H is X Y BW BH) : (0 ≤ X ∧ X ≤ W) ∧ (0 ≤ Y ∧ Y ≤ H) ∧ (0 ≤ BW ∧ BW ≤ W) ∧ (0 ≤ BH ∧ BH ≤ H) ∧ (is = true → X + BW ≤ W ∧ Y + BH ≤ H ∧ 1 ≤ BW ∧ 1 ≤ BH) := by
 rcases h with ⟨h1, h2, h3, h4, h5, h6⟩ | ⟨h1, l, r, t, b, h2, h3, h4, h5, h6, h7⟩
 · refine ⟨by omega, by omega, by omega, by omega, fun h => ?_⟩
   rw [h1] at h; cases h
 · have a1 := h2.1.1
   have a2 := h2.2.1
   have a3 := h3.1.1
   have a4 := h3.2.1
   have a5 : l ≤ r := by
    rcases Nat.lt_or_ge r l with c | c
    · have := h2.1.2.2 r c; have := h2.2.2.1; omega
    · exact c
   have a6 : t ≤ b := by
    rcases Nat.lt_or_ge b t with c | c
    · have := h3.1.2.2 b c; have := h3.2.2.1; omega
    · exact c
   exact ⟨by omega, by omega, by omega, by omega, fun _ => by omega⟩

/-- The bounds so far. -/
def BInv (bs : List Bool) (W H m : Nat) (l t r b : Int) : Prop :=
 ((∀ i, i < m → bs.getD i false = false) ∧ l = W ∧ t = H ∧ r = -1 ∧ b = -1) ∨
 ((∃ i, i < m ∧ bs.getD i false = true ∧ l = ((i % W : Nat) : Int)) ∧ (∃ i, i < m ∧ bs.getD i false = true ∧ t = ((i / W : Nat) : Int)) ∧ (∃ i, i < m ∧ bs.getD i false = true ∧ r = ((i % W : Nat) : Int)) ∧ (∃ i, i < m ∧ bs.getD i false = true ∧ b = ((i / W : Nat) : Int)) ∧
   ∀ i, i < m → bs.getD i false = true → l ≤ ((i % W : Nat) : Int) ∧ ((i % W : Nat) : Int) ≤ r ∧ t ≤ ((i / W : Nat) : Int) ∧ ((i / W : Nat) : Int) ≤ b)
theorem BInv.start (bs : List Bool) (W H : Nat) : BInv bs W H 0 W H (-1) (-1) := Or.inl ⟨fun i hi => by omega, rfl, rfl, rfl, rfl⟩
theorem BInv.no {bs : List Bool} {W H m : Nat} {l t r b : Int} (h : BInv bs W H m l t r b) (hm : bs.getD m false = false) : BInv bs W H (m + 1) l t r b := by
 rcases h with ⟨h1, h2⟩ | ⟨⟨i1, a1, b1', c1⟩, ⟨i2, a2, b2, c2⟩, ⟨i3, a3, b3, c3⟩, ⟨i4, a4, b4, c4⟩, h5⟩
 · refine Or.inl ⟨fun i hi => ?_, h2⟩
   rcases Nat.lt_or_ge i m with c | c
   · exact h1 i c
   · obtain rfl : i = m := by omega
     exact hm
 · refine Or.inr ⟨⟨i1, by omega, b1', c1⟩, ⟨i2, by omega, b2, c2⟩, ⟨i3, by omega, b3, c3⟩, ⟨i4, by omega, b4, c4⟩, fun i hi hb => ?_⟩
   rcases Nat.lt_or_ge i m with c | c
   · exact h5 i c hb
   · obtain rfl : i = m := by omega
     rw [hm] at hb; cases hb
theorem BInv.bd {bs : List Bool} {W H m : Nat} {l t r b : Int} (h : BInv bs W H m l t r b) (hm : m ≤ W * H) : (0 ≤ l ∧ l ≤ W) ∧ (0 ≤ t ∧ t ≤ H) ∧ (-1 ≤ r ∧ r < W) ∧ (-1 ≤ b ∧ b < H) := by
 have hp : ∀ i, i < m → i % W < W ∧ i / W < H := fun i hi => by
  obtain ⟨a, b, _⟩ := place_parts (show i < W * H by omega)
  exact ⟨a, b⟩
 rcases h with ⟨h1, rfl, rfl, rfl, rfl⟩ | ⟨⟨i1, a1, b1', c1⟩, ⟨i2, a2, b2, c2⟩, ⟨i3, a3, b3, c3⟩, ⟨i4, a4, b4, c4⟩, h5⟩
 · omega
 · have p1 := (hp i1 a1).1; have p2 := (hp i2 a2).2; have p3 := (hp i3 a3).1; have p4 := (hp i4 a4).2
   clear h5 hp
   generalize i1 % W = x1 at c1 p1
   generalize i2 / W = y2 at c2 p2
   generalize i3 % W = x3 at c3 p3
   generalize i4 / W = y4 at c4 p4
   omega
theorem pix_place {bs : List Bool} {W H i : Nat} (hi : i < W * H) : pix bs W (i % W) (i / W) = bs.getD i false := by
 unfold pix; rw [(place_parts hi).2.2]
/-- What comes out. -/
theorem BInv.done {bs : List Bool} {W H : Nat} {l t r b : Int} (h : BInv bs W H (W * H) l t r b) :
 (r < 0 ∧ BoundsIs bs W H false 0 0 0 0) ∨ (¬ r < 0 ∧ BoundsIs bs W H true l t (r - l + 1) (b - t + 1)) := by
 rcases h with ⟨h1, rfl, rfl, rfl, rfl⟩ | ⟨⟨i1, a1, b1', c1⟩, ⟨i2, a2, b2, c2⟩, ⟨i3, a3, b3, c3⟩, ⟨i4, a4, b4, c4⟩, h5⟩
 · refine Or.inl ⟨by omega, Or.inl ⟨rfl, fun x hx => ?_, rfl, rfl, rfl, rfl⟩⟩
   rcases Nat.eq_zero_or_pos (colN bs W H x) with e | e
   · exact e
   · obtain ⟨y, hy, hp⟩ := (colN_pos bs W H x).1 e
     have := h1 (y * W + x) (place_lt hx hy)
     unfold pix at hp
     rw [this] at hp; cases hp
 · have q1 := place_parts a1; have q2 := place_parts a2; have q3 := place_parts a3; have q4 := place_parts a4
   have all : ∀ x y, x < W → y < H → pix bs W x y = true → l ≤ x ∧ (x : Int) ≤ r ∧ t ≤ y ∧ (y : Int) ≤ b := fun x y hx hy hp => by
    have := h5 (y * W + x) (place_lt hx hy) hp
    rwa [(at_parts y hx).1, (at_parts y hx).2] at this
   refine Or.inr ⟨by omega, Or.inr ⟨rfl, i1 % W, i3 % W, i2 / W, i4 / W, ⟨⟨q1.1, (colN_pos _ _ _ _).2 ⟨i1 / W, q1.2.1, by rw [pix_place a1]; exact b1'⟩, fun j hj => ?_⟩, q3.1, (colN_pos _ _ _ _).2 ⟨i3 / W, q3.2.1, by rw [pix_place a3]; exact b3⟩, fun j hj hj2 => ?_⟩,
    ⟨⟨q2.2.1, (rowN_pos _ _ _).2 ⟨i2 % W, q2.1, by rw [pix_place a2]; exact b2⟩, fun j hj => ?_⟩, q4.2.1, (rowN_pos _ _ _).2 ⟨i4 % W, q4.1, by rw [pix_place a4]; exact b4⟩, fun j hj hj2 => ?_⟩, c1, c2, by rw [c1, c3], by rw [c2, c4]⟩⟩
   · rcases Nat.eq_zero_or_pos (colN bs W H j) with e | e
     · exact e
     · obtain ⟨y, hy, hp⟩ := (colN_pos bs W H j).1 e
       have := all j y (by omega) hy hp; omega
   · rcases Nat.eq_zero_or_pos (colN bs W H j) with e | e
     · exact e
     · obtain ⟨y, hy, hp⟩ := (colN_pos bs W H j).1 e
       have := all j y (by omega) hy hp; omega
   · rcases Nat.eq_zero_or_pos (rowN bs W j) with e | e
     · exact e
     · obtain ⟨x, hx, hp⟩ := (rowN_pos bs W j).1 e
       have := all x j hx (by omega) hp; omega
   · rcases Nat.eq_zero_or_pos (rowN bs W j) with e | e
     · exact e
     · obtain ⟨x, hx, hp⟩ := (rowN_pos bs W j).1 e
       have := all x j hx (by omega) hp; omega

/-! ### values -/
end Go.Proofs.YthobmednnocklaaGreatDoor


/-! The plain law of fonts: what is wrong with one; how letters lie in memory. -/
namespace Go.Proofs.YthobmednnocklaaGreatDoor
open Go.RowKit

/-- A letter: its text, its page's size, where the page's pixels lie, and what they are. -/
structure Ltr where
 text : List UInt8
 W : Int
 H : Int
 A : Option Addr
 m : Nat
 c : Nat
 bs : List Bool
def Ltr.cells (l : Ltr) : List Value := [.string ⟨l.text.toArray⟩, .int .i64 l.W, .int .i64 l.H, .slice l.A l.m l.c]
def ltrCells (ls : List Ltr) : List Value := ls.flatMap Ltr.cells
theorem ltrCells_len (ls : List Ltr) : (ltrCells ls).length = ls.length * 4 := by
 unfold ltrCells
 induction ls with
 | nil => rfl
 | cons l ls ih =>
  rw [List.flatMap_cons, List.length_append, ih, List.length_cons]
  show 4 + ls.length * 4 = (ls.length + 1) * 4
  omega
theorem ltrCells_append (a b : List Ltr) : ltrCells (a ++ b) = ltrCells a ++ ltrCells b := by unfold ltrCells; rw [List.flatMap_append]
theorem ltrCells_at {ls : List Ltr} {i : Nat} {l : Ltr} (h : ls[i]? = some l) (j : Nat) (hj : j < 4) : (ltrCells ls)[i * 4 + j]? = l.cells[j]? := by
 induction ls generalizing i with
 | nil => simp at h
 | cons x ls ih =>
  unfold ltrCells
  rw [List.flatMap_cons]
  rcases i with _ | i
  · simp only [List.getElem?_cons_zero, Option.some.injEq] at h
    subst h
    rw [List.getElem?_append_left (by show 0 * 4 + j < 4; omega)]
    simp
  · rw [List.getElem?_append_right (by show 4 ≤ (i + 1) * 4 + j; omega)]
    have e : (i + 1) * 4 + j - x.cells.length = i * 4 + j := by
     show (i + 1) * 4 + j - 4 = i * 4 + j
     omega
    rw [e]
    exact ih (by simpa using h)
/-- The letters lie there. -/
def LtrsAt (w : World) (L : Option Addr) (ls : List Ltr) : Prop := Reads w 4 L ls.length (ltrCells ls) ∧ ∀ l ∈ ls, Reads w 1 l.A l.m (l.bs.map .bool) ∧ l.text.length ≤ 9223372036854775807
theorem LtrsAt.bl {w w' : World} {L : Option Addr} {ls : List Ltr} (h : LtrsAt w L ls) (hb : Bl w w') : LtrsAt w' L ls := ⟨h.1.bl hb, fun l hl => ⟨(h.2 l hl).1.bl hb, (h.2 l hl).2⟩⟩
theorem LtrsAt.at_ {w : World} {L : Option Addr} {ls : List Ltr} {i : Nat} {l : Ltr} (h : LtrsAt w L ls) (hi : ls[i]? = some l) : ∃ ad, L = some ad ∧ w.cell? (ad.add (i * 4)) = some (.string ⟨l.text.toArray⟩) ∧ w.cell? ⟨(ad.add (i * 4)).block, (ad.add (i * 4)).off + 1, none⟩ = some (.int .i64 l.W) ∧
 w.cell? ⟨(ad.add (i * 4)).block, (ad.add (i * 4)).off + 2, none⟩ = some (.int .i64 l.H) ∧ w.cell? ⟨(ad.add (i * 4)).block, (ad.add (i * 4)).off + 3, none⟩ = some (.slice l.A l.m l.c) := by
 have hlt : i < ls.length := (List.getElem?_eq_some_iff.1 hi).1
 obtain ⟨ad, e, hc⟩ := h.1.2 (by omega)
 have key : ∀ j v, j < 4 → l.cells[j]? = some v → w.cell? ((ad.add (i * 4)).add j) = some v := fun j v hj hv => by
  rw [add_of_add]
  exact hc _ _ (by rw [ltrCells_at hi j hj]; exact hv)
 have k0 := key 0 _ (by omega) rfl
 have k1 := key 1 _ (by omega) rfl
 have k2 := key 2 _ (by omega) rfl
 have k3 := key 3 _ (by omega) rfl
 rw [Addr.add_zero'] at k0
 rw [Addr.add_succ'] at k1 k2 k3
 exact ⟨ad, e, k0, k1, k2, k3⟩
theorem LtrsAt.take {w : World} {L : Option Addr} {ls : List Ltr} (h : LtrsAt w L ls) (i : Nat) (hi : i ≤ ls.length) : LtrsAt w L (ls.take i) := by
 have hl : (ls.take i).length = i := by simp; omega
 refine ⟨⟨ltrCells_len _, fun hn => ?_⟩, fun l hm => h.2 l (List.mem_of_mem_take hm)⟩
 obtain ⟨ad, e, hc⟩ := h.1.2 (by omega)
 refine ⟨ad, e, fun j u hj => hc j u ?_⟩
 have e2 : ltrCells ls = ltrCells (ls.take i) ++ ltrCells (ls.drop i) := by rw [← ltrCells_append, List.take_append_drop]
 rw [e2, List.getElem?_append_left (List.getElem?_eq_some_iff.1 hj).1]
 exact hj

/-! ### what is wrong -/
def textB (l : List UInt8) : Bool := decide (∀ b ∈ l, 33 ≤ b.toNat ∧ b.toNat ≤ 126) && decide (1 ≤ l.length ∧ l.length ≤ 4)
/-- Does some column have no ink? -/
def bareB (bs : List Bool) (W H : Nat) : Bool := decide (∃ x, x < W ∧ colN bs W H x = 0)
def ltrErr (ht : Int) (prev : List (List UInt8)) (l : Ltr) : Int :=
 firstNZ [whenI (!textB l.text) 2, whenI (decide (l.text ∈ prev)) 6, pageErr l.W l.H l.m, whenI (l.H != ht) 11, whenI (decide (64 < l.W)) 4, whenI (bareB l.bs l.W.toNat l.H.toNat) 2]
def ltrsErr (ht : Int) : List (List UInt8) → List Ltr → Int
 | _, [] => 0
 | prev, l :: ls => if ltrErr ht prev l = 0 then ltrsErr ht (prev ++ [l.text]) ls else ltrErr ht prev l
def rangeB (ht gap sp : Int) : Bool := inB ht 1 64 && (inB gap 1 16 && inB sp 1 64)
def fontHead (nm : Bool) (ht gap sp : Int) (n : Nat) : Int := firstNZ [whenI (!nm) 5, whenI (!rangeB ht gap sp) 3, whenI (decide (sp ≤ gap)) 7, whenI (decide (n = 0)) 9, whenI (decide (200 < n)) 4]
def fontErr (nm : Bool) (ht gap sp : Int) (ls : List Ltr) : Int := if fontHead nm ht gap sp ls.length = 0 then ltrsErr ht [] ls else fontHead nm ht gap sp ls.length
/-- What is left of the letters, from the i-th on. -/
theorem ltrsErr_from {ht : Int} {ls : List Ltr} {i : Nat} {l : Ltr} (h : ls[i]? = some l) : ltrsErr ht ((ls.take i).map Ltr.text) (ls.drop i) = if ltrErr ht ((ls.take i).map Ltr.text) l = 0 then ltrsErr ht ((ls.take (i + 1)).map Ltr.text) (ls.drop (i + 1)) else ltrErr ht ((ls.take i).map Ltr.text) l := by
 have hlt : i < ls.length := (List.getElem?_eq_some_iff.1 h).1
 have e : ls.drop i = l :: ls.drop (i + 1) := by
  rw [List.drop_eq_getElem_cons hlt]
  congr 1
  exact (List.getElem?_eq_some_iff.1 h).2
 have e2 : ls.take (i + 1) = ls.take i ++ [l] := by rw [List.take_add_one, h]; rfl
 rw [e, e2, List.map_append]
 rfl

end Go.Proofs.YthobmednnocklaaGreatDoor


/-! page.counted, Rows, Columns, Histogram. -/
namespace Go.Proofs.YthobmednnocklaaGreatDoor
open Go.RowKit

/-- A table of numbers if the error is 0, nothing else. -/
def TabRes (w : World) (err : Int) (N : Nat) (f : Nat → Int) (P : Option Addr) (m : Nat) : Prop :=
 (err = 0 → m = N ∧ Reads w 1 P m ((tabL m f).map (.int .i64))) ∧ (err ≠ 0 → m = 0 ∧ P = none)
theorem TabRes.bl {w w' : World} {err : Int} {N : Nat} {f : Nat → Int} {P : Option Addr} {m : Nat} (h : TabRes w err N f P m) (hb : Bl w w') : TabRes w' err N f P m :=
 ⟨fun e => ⟨(h.1 e).1, (h.1 e).2.bl hb⟩, h.2⟩
def colI (bs : List Bool) (W H k : Nat) : Int := ((colN bs W H k : Nat) : Int)
set_option maxRecDepth 100000 in
set_option maxHeartbeats 2000000 in
theorem counted_any (W H : Nat) (A : Option Addr) (ac : Nat) (bs : List Bool) (many : Nat) (num : Nat → Nat) (kf : FuncId) (cap : Array Value) (w : World) (hA : Reads w 1 A (W * H) (bs.map .bool)) (hbd : W * H ≤ 1048576) (hmany : many ≤ 4000)
 (hent : ∀ args w, (callFunc kf args).run Tryz.prog w = .ok (.enter kf args) w)
 (hnum : ∀ wx (i : Nat), Bl w wx → i < W * H → Calls Tryz.prog kf (#[.int .i64 i] ++ cap) wx fun e w' => e = .returned (.int .i64 ((num i : Nat) : Int)) ∧ Bl wx w') (hlt : ∀ i, i < W * H → num i < many) :
 Calls Tryz.prog 241 #[.agg #[.int .i64 W, .int .i64 H, .slice A (W * H) ac], .int .i64 many, .func (.func kf) #[] cap] w fun e w' =>
  ∃ g, e = .returned (.slice (some ⟨g, 0, none⟩) many many) ∧ w.heap.size ≤ g ∧ Blk w' g 3 (tabI many fun k => ((cntBy bs num (W * H) k : Nat) : Int)) ∧ Bl w w' := by
 let w2 := (w).alloc (.cells #[.int .i64 W, .int .i64 H, .slice A (W * H) ac] 24)
 have w2b : Bl w w2 := (Bl.refl w).alloc _
 have w21 : Blk w2 (w.heap.size) 24 #[.int .i64 W, .int .i64 H, .slice A (W * H) ac] := by
  have h0 := Blk.new (w) 24 #[.int .i64 W, .int .i64 H, .slice A (W * H) ac]
  exact h0
 have k1 := w21.all3
 have lw2 : w2.heap.size = w.heap.size + 1 := by simp [w2]
 have hmk := run_make_row' (P := Tryz.prog) 57 3 (.int .i64 0) 8 Tryz.underlying57 info_int rfl .i64 .i64 many (by omega) (by omega)
 rw [tabI_made] at hmk
 have HA := Lib.hid hA; have Hnum := Lib.hid hnum; have Hlt := Lib.hid hlt
 have start : Blk (w2.alloc (.cells (tabI many fun _ => 0) 3)) (w.heap.size + 1) 3 (tabI many fun k => ((cntBy bs num 0 k : Nat) : Int)) := by
  have := Blk.new w2 3 (tabI many fun _ => 0)
  rw [lw2] at this
  exact this
 have Start := Lib.hid start
 clear hA hnum hlt start
 go_enter Tryz.func241, Tryz.ntmps241
 go_wp2_with fail
 go_loopw [15] (fun u wr => ∃ i : Nat, i ≤ W * H ∧ u = .int .i64 i ∧ Bl w2 wr ∧ Blk wr (w.heap.size + 1) 3 (tabI many fun k => ((cntBy bs num i k : Nat) : Int))) (fun u _ => W * H - (intOf u).toNat)
 case atStart => exact ⟨0, Nat.zero_le _, rfl, (Bl.refl _).alloc _, Start.out⟩
 case round =>
  clear k1
  obtain ⟨i, hi, rfl, hbr, hbo⟩ := hrel
  have k1 := (w21.bl hbr).all3
  by_cases hlt : i < W * H
  · have il : (i : Int) < (W : Int) * (H : Int) := by have := Int.natCast_mul W H; omega
    obtain ⟨ad, ua, eA, hu, hca⟩ := (HA.out.bl (w2b.trans hbr)).at_ hlt
    have hua : ua = .bool (bs.getD i false) := by
     simp only [List.getElem?_map, Option.map_eq_some_iff] at hu
     obtain ⟨b, hb1, hb2⟩ := hu
     rw [← hb2, List.getD, hb1]; rfl
    clear hu
    subst hua eA
    have hst := fun k => cntBy_succ bs num i k
    have hle := fun k => cntBy_le bs num i k
    have hn := Hlt.out i hlt
    have hcall := fun wx h => Hnum.out wx i (w2b.trans h) hlt
    obtain ⟨va, hva⟩ : ∃ v, v = bs.getD i false := ⟨_, rfl⟩
    obtain ⟨a, ha⟩ : ∃ a, a = num i := ⟨_, rfl⟩
    rw [← ha] at hn
    simp only [← ha] at hcall hst
    simp only [← hva] at hst hca
    have Hst := Lib.hid hst; have Hle := Lib.hid hle; have Hcall := Lib.hid hcall
    clear hst hle hcall hva ha
    cases va
    · have hsame : tabI many (fun k => ((cntBy bs num i k : Nat) : Int)) = tabI many (fun k => ((cntBy bs num (i + 1) k : Nat) : Int)) :=
       tabI_congr fun k _ => by rw [Hst.out k]; simp [b1]
      rw [hsame] at hbo
      clear hsame
      go_wp2_with fail
      exact ⟨⟨i + 1, hlt, by go_num, hbr, hbo⟩, by simp [intOf]; omega⟩
    · go_wp2_with fail
      refine (Hcall.out _ hbr).mono ?_
      rintro e w4 ⟨rfl, hb4⟩
      have hbr4 := hbr.trans hb4
      have hbo4 := hbo.bl hb4
      have kc := hbo4.tabAt hn
      have kf := hbo4.frozen a
      have hset := hbo4.tabSet (f' := fun k => ((cntBy bs num (i + 1) k : Nat) : Int)) a (((cntBy bs num i a : Nat) : Int) + 1) (fun k hk => by
       rw [Hst.out k]
       by_cases e : k = a
       · subst e; simp [b1]
       · have : ¬ (a = k) := fun h => e h.symm
         simp [e, this, b1])
      have hcb := Hle.out a
      obtain ⟨c, hc⟩ : ∃ c, c = cntBy bs num i a := ⟨_, rfl⟩
      rw [← hc] at kc hset hcb
      have Hset := Lib.hid hset
      clear hset hc k1
      go_wp2_with fail
      exact ⟨⟨i + 1, hlt, by go_num, hbr4.setCell (by simp; omega) _, Hset.out⟩, by simp [intOf]; omega⟩
  · obtain rfl : i = W * H := by omega
    go_wp2_with fail
    go_ret
    exact ⟨_, rfl, by omega, hbo, w2b.trans hbr⟩

set_option maxHeartbeats 400000 in
theorem columns1_any (p W : Nat) (H : Int) (v : Value) (i : Nat) (w : World) (hp : Blk w p 24 #[.int .i64 W, .int .i64 H, v]) (hW : 1 ≤ W ∧ W ≤ 4000) (hi : i ≤ 1048576) :
 Calls Tryz.prog 242 #[.int .i64 i, .pointer (some ⟨p, 0, none⟩)] w fun e w' => e = .returned (.int .i64 ((i % W : Nat) : Int)) ∧ Bl w w' := by
 have kp := hp.all3
 have hWp : ¬ (W = 0) := by omega
 obtain ⟨q, hq⟩ : ∃ q, q = i % W := ⟨_, rfl⟩
 have e1 : (i : Int) % (W : Int) = (q : Int) := by rw [hq]; simp
 have e2 := hq.symm
 have hqb : q ≤ i := by rw [hq]; first | exact Nat.div_le_self _ _ | exact Nat.mod_le _ _
 rw [← hq]
 clear hq
 go_enter Tryz.func242, Tryz.ntmps242
 go_wp2_with fail
 go_ret
 exact ⟨by first | rfl | exact ret_int e1, Bl.refl _⟩
set_option maxRecDepth 100000 in
set_option maxHeartbeats 1000000 in
theorem columns_any (W H : Int) (A : Option Addr) (an ac : Nat) (bs : List Bool) (w : World) (hA : Reads w 1 A an (bs.map .bool)) :
 Calls Tryz.prog 158 #[.agg #[.int .i64 W, .int .i64 H, .slice A an ac]] w fun e w' =>
  ∃ P m c, e = .returned (.tuple #[.slice P m c, .int .i64 (pageErr W H an)]) ∧ TabRes w' (pageErr W H an) W.toNat (colI bs W.toNat H.toNat) P m ∧ Bl w w' := by
 let w2 := (w).alloc (.cells #[.int .i64 W, .int .i64 H, .slice A an ac] 24)
 have w2b : Bl w w2 := (Bl.refl w).alloc _
 have w21 : Blk w2 (w.heap.size) 24 #[.int .i64 W, .int .i64 H, .slice A an ac] := by
  have h0 := Blk.new (w) 24 #[.int .i64 W, .int .i64 H, .slice A an ac]
  exact h0
 have k1 := w21.all3
 by_cases hp : pageErr W H an = 0
 · have hz := sizeErr_zero (pageErr_zero hp).1
   have Hp := Lib.hid hp
   obtain ⟨W, H, rfl, rfl, rfl, u1, u2, u3⟩ := page_nat hp
   have hW : 1 ≤ W ∧ W ≤ 4000 := by omega
   have HA := Lib.hid (hA.bl w2b)
   clear hz hA
   have ent := enters Tryz.func242 (by kernel_rfl) rfl
   go_enter Tryz.func158, Tryz.ntmps158
   go_wp2_with fail
   refine (checkBits_any _ _ _ _ _ _).mono ?_
   rintro e w3 ⟨rfl, hb3⟩
   have k3 := (w21.bl hb3).all3
   clear k1
   go_wp2_with fail
   refine (counted_any W H A ac bs W (fun i => i % W) 242 #[.pointer (some ⟨w.heap.size, 0, none⟩)] _ (HA.out.bl hb3) u3 (by omega) ent
    (fun wx i hb hi => columns1_any _ W H _ i wx ((w21.bl hb3).bl hb) hW (by omega)) (fun i hi => (place_parts hi).1)).mono ?_
   rintro e w4 ⟨g, rfl, hg, hbk, hb4⟩
   have e : tabI W (fun k => ((cntBy bs (fun i => i % W) (W * H) k : Nat) : Int)) = tabI W (colI bs W H) := tabI_congr fun k hk => by rw [cntBy_cols bs W H k hk]; rfl
   rw [e] at hbk
   have hp := Hp.out
   go_wp2_with fail
   refine bodyPost_ret (v := .tuple #[.slice (some ⟨g, 0, none⟩) W W, .int .i64 0]) (by simp [results, Tryz.results158, go_sem]) rfl ⟨_, _, _, by rw [hp], ⟨fun _ => ⟨by simp, ?_⟩, fun h => absurd hp h⟩, (w2b.trans hb3).trans hb4⟩
   simpa using hbk.tabReads
 · have hq : (pageErr W H an != 0) = true := by simp [hp]
   have Hp := Lib.hid hp
   clear hp
   go_enter Tryz.func158, Tryz.ntmps158
   go_wp2_with fail
   refine (checkBits_any _ _ _ _ _ _).mono ?_
   rintro e w3 ⟨rfl, hb3⟩
   go_wp2_with fail
   refine bodyPost_ret (v := .tuple #[.slice none 0 0, .int .i64 (pageErr W H an)]) (by simp [results, Tryz.results158, go_sem]) rfl ⟨_, _, _, rfl, ⟨fun h => absurd h Hp.out, fun _ => ⟨rfl, rfl⟩⟩, w2b.trans hb3⟩

/-! ### Histogram -/
end Go.Proofs.YthobmednnocklaaGreatDoor
