/- The plain law of ink that is moved place by place. -/
import Derived.Test.YtjelhdpcaileiaaGreatDoorS0

namespace Go.Proofs.YtjelhdpcaileiaaGreatDoor
open Go.RowKit

/-! ### plain -/
def grid {α : Type} (W H : Nat) (f : Nat → Nat → α) : List α := (List.range (W * H)).map fun i => f (i % W) (i / W)
theorem grid_length {α : Type} (W H : Nat) (f : Nat → Nat → α) : (grid W H f).length = W * H := by simp [grid]
theorem grid_at {α : Type} (W H : Nat) (f : Nat → Nat → α) (i : Nat) (h : i < W * H) : (grid W H f)[i]? = some (f (i % W) (i / W)) := by simp [grid, h]
theorem grid_congr {α : Type} (W H : Nat) (f g : Nat → Nat → α) (h : ∀ x y, x < W → y < H → f x y = g x y) : grid W H f = grid W H g := by
  unfold grid
  apply List.map_congr_left
  intro i hi
  have hi' : i < W * H := by simpa using hi
  have hW : 0 < W := by rcases Nat.eq_zero_or_pos W with h0 | h0; (subst h0; simp at hi'); exact h0
  exact h _ _ (Nat.mod_lt _ hW) (Nat.div_lt_of_lt_mul hi')
/-- The first m places of a page, row by row. -/
def gridTo {α : Type} (W : Nat) (f : Nat → Nat → α) (m : Nat) : List α := (List.range m).map fun i => f (i % W) (i / W)
theorem gridTo_succ {α : Type} (W : Nat) (f : Nat → Nat → α) (con : α → Value) (y x : Nat) (hx : x < W) : (gridTo W f (y * W + x + 1)).map con = (gridTo W f (y * W + x)).map con ++ [con (f x y)] := by
  have ex : (y * W + x) % W = x := by rw [Nat.mul_comm, Nat.mul_add_mod, Nat.mod_eq_of_lt hx]
  have ey : (y * W + x) / W = y := by rw [Nat.mul_comm, Nat.mul_add_div (by omega), Nat.div_eq_of_lt hx, Nat.add_zero]
  simp [gridTo, List.range_succ, ex, ey]

/-- A page with its cells. -/
def IsPage (w : World) (v : Value) (W H : Nat) (cells : List Value) : Prop := ∃ A c, v = .agg #[.int .i64 W, .int .i64 H, .slice A (W * H) c] ∧ Reads w 1 A (W * H) cells
theorem IsPage.bl {w w' : World} {v : Value} {W H : Nat} {cells : List Value} (h : IsPage w v W H cells) (hb : Bl w w') : IsPage w' v W H cells :=
  let ⟨A, c, e, hr⟩ := h
  ⟨A, c, e, hr.bl hb⟩

/-- A page in new memory: from block B on. -/
def NPage (B : Nat) (w : World) (v : Value) (W H : Nat) (cells : List Value) : Prop := ∃ A c, v = .agg #[.int .i64 W, .int .i64 H, .slice A (W * H) c] ∧ Reads w 1 A (W * H) cells ∧ ∀ ad, A = some ad → B ≤ ad.block
theorem NPage.is {B : Nat} {w : World} {v : Value} {W H : Nat} {cells : List Value} (h : NPage B w v W H cells) : IsPage w v W H cells :=
  let ⟨A, c, e, hr, _⟩ := h
  ⟨A, c, e, hr⟩
theorem NPage.bl {B : Nat} {w w' : World} {v : Value} {W H : Nat} {cells : List Value} (h : NPage B w v W H cells) (hb : Bl w w') : NPage B w' v W H cells :=
  let ⟨A, c, e, hr, hn⟩ := h
  ⟨A, c, e, hr.bl hb, hn⟩
theorem NPage.mono {B B' : Nat} {w : World} {v : Value} {W H : Nat} {cells : List Value} (h : NPage B w v W H cells) (hb : B' ≤ B) : NPage B' w v W H cells :=
  let ⟨A, c, e, hr, hn⟩ := h
  ⟨A, c, e, hr, fun ad h => Nat.le_trans hb (hn ad h)⟩
theorem Reads.store {B : Nat} {w : World} {size n : Nat} {A : Option Addr} {xs : List Value} (h : Reads w size A n xs) (hn : ∀ ad, A = some ad → B ≤ ad.block) {p : Addr} (hp : p.block < B) (u : Value) : Reads (w.setCell p u) size A n xs :=
  ⟨h.1, fun hk => by
    obtain ⟨ad, e, hc⟩ := h.2 hk
    exact ⟨ad, e, fun j x hx => by rw [World.cell?_setCell_other w p _ u (fun e' => by have h1 := hn ad e; have h2 := congrArg Addr.block e'; rw [block_of_add] at h2; omega)]; exact hc j x hx⟩⟩
theorem NPage.store {B : Nat} {w : World} {v : Value} {W H : Nat} {cells : List Value} (h : NPage B w v W H cells) {p : Addr} (hp : p.block < B) (u : Value) : NPage B (w.setCell p u) v W H cells :=
  let ⟨A, c, e, hr, hn⟩ := h
  ⟨A, c, e, hr.store hn hp u, hn⟩

/-- A function value that tells a place's value. -/
def Paints {α : Type} (P : Program) (k : FuncId) (cap : Array Value) (con : α → Value) (w : World) (W H : Nat) (f : Nat → Nat → α) : Prop :=
  (∀ args w, (callFunc k args).run P w = .ok (.enter k args) w) ∧
  ∀ wx (x y : Nat), Bl w wx → x < W → y < H → Calls P k (#[.int .i64 x, .int .i64 y] ++ cap) wx fun e w' => e = .returned (con (f x y)) ∧ Bl wx w'
theorem Paints.bl {α : Type} {P : Program} {k : FuncId} {cap : Array Value} {con : α → Value} {w w' : World} {W H : Nat} {f : Nat → Nat → α} (h : Paints P k cap con w W H f) (hb : Bl w w') : Paints P k cap con w' W H f :=
  ⟨h.1, fun wx x y hx => h.2 wx x y (hb.trans hx)⟩

theorem place_lt {W H x y : Nat} (hx : x < W) (hy : y < H) : y * W + x < W * H := by
  have m := mul_step (a := W) hy
  rw [Nat.mul_comm W H]; omega

/-! ### Bits -/
def madeInv (w : World) (W H : Nat) (f : Nat → Nat → Bool) (wr : World) (n : Nat) : Prop :=
  Bl w wr ∧ (∃ cs : Array Value, Blk wr (w.heap.size + 1) 4 cs ∧ cs.size = W * H ∧ ∀ i, i < n → cs[i]? = some (Value.bool (f (i % W) (i / W)))) ∧
    Blk wr (w.heap.size + 1 + 1) 28 #[.int .i64 W, .int .i64 H, .slice (some ⟨w.heap.size + 1, 0, none⟩) (W * H) (W * H)] ∧
    Blk wr w.heap.size 28 #[.int .i64 0, .int .i64 0, .slice none 0 0]

theorem madeInv.start (w : World) (W H : Nat) (f : Nat → Nat → Bool) : madeInv w W H f (((w.alloc (.cells #[.int .i64 0, .int .i64 0, .slice none 0 0] 28)).alloc (.cells (madeCells #[.bool false] (W * H)) 4)).alloc
    (.cells #[.int .i64 W, .int .i64 H, .slice (some ⟨w.heap.size + 1, 0, none⟩) (W * H) (W * H)] 28)) 0 := by
  have b0 := Blk.new w 28 #[.int .i64 0, .int .i64 0, .slice none 0 0]
  have b1 := Blk.new (w.alloc (.cells #[.int .i64 0, .int .i64 0, .slice none 0 0] 28)) 4 (madeCells #[.bool false] (W * H))
  have b2 := Blk.new ((w.alloc (.cells #[.int .i64 0, .int .i64 0, .slice none 0 0] 28)).alloc (.cells (madeCells #[.bool false] (W * H)) 4)) 28 #[.int .i64 W, .int .i64 H, .slice (some ⟨w.heap.size + 1, 0, none⟩) (W * H) (W * H)]
  simp only [World.size_alloc] at b1 b2
  exact ⟨(((Bl.refl w).alloc _).alloc _).alloc _, ⟨_, b1.alloc _, size_madeCells _ _, fun i hi => absurd hi (by omega)⟩, b2, (b0.alloc _).alloc _⟩

set_option maxRecDepth 100000 in
set_option maxHeartbeats 1000000 in
theorem made_any (W H : Nat) (f : Nat → Nat → Bool) (k : FuncId) (cap : Array Value) (w : World) (hW : W ≤ 1048576) (hH : H ≤ 1048576) (hWH : W * H ≤ 1048576) (hk : Paints Tryz.prog k cap Value.bool w W H f) :
    Calls Tryz.prog 62 #[.int .i64 W, .int .i64 H, .func (.func k) #[] cap] w fun e w' => ∃ v, e = .returned v ∧ NPage w.heap.size w' v W H ((grid W H f).map Value.bool) ∧ Bl w w' := by
  have hmk := run_make_row' (P := Tryz.prog) 26 4 (.bool false) 1 Tryz.underlying26 info_bool rfl .i64 .i64 (W * H) (by omega) (by omega)
  have hent := hk.1
  have eWH : (W : Int) * (H : Int) = ((W * H : Nat) : Int) := by simp
  have h1 : (0:Int) ≤ (W:Int) * (H:Int) := by omega
  have h2 : (W:Int) * (H:Int) ≤ 1048576 := by omega
  rw [← eWH] at hmk
  have EWH := Lib.hid eWH; clear eWH
  have inv0 := Lib.hid (madeInv.start w W H f)
  go_enter Tryz.func62, Tryz.ntmps62
  go_wp2_with fail
  go_loopw [18] (fun v wr => ∃ y : Nat, y ≤ H ∧ v = .int .i64 y ∧ madeInv w W H f wr (y * W)) (fun v _ => H - (intOf v).toNat)
  case atStart => exact ⟨0, Nat.zero_le _, rfl, by simpa using inv0.out⟩
  case round =>
    obtain ⟨y, hy, rfl, hinv⟩ := hrel
    by_cases hlt : y < H
    · go_wp2_with fail
      go_loopw [22] (fun v w2 => ∃ x : Nat, x ≤ W ∧ v = .int .i64 x ∧ madeInv w W H f w2 (y * W + x)) (fun v _ => W - (intOf v).toNat)
      case atStart => exact ⟨0, Nat.zero_le _, rfl, by simpa using hinv⟩
      case round =>
        obtain ⟨x, hx, rfl, hinv2⟩ := hrel
        by_cases hlt2 : x < W
        · obtain ⟨hbl, ⟨cs, hblk, hsz, hcs⟩, hb2, hb0⟩ := hinv2
          have ex : (y * W + x) % W = x := by rw [Nat.mul_comm, Nat.mul_add_mod, Nat.mod_eq_of_lt hlt2]
          have ey : (y * W + x) / W = y := by rw [Nat.mul_comm, Nat.mul_add_div (by omega), Nat.div_eq_of_lt hlt2, Nat.add_zero]
          have hilt := place_lt hlt2 hlt
          obtain ⟨i, hi⟩ : ∃ i, i = y * W + x := ⟨_, rfl⟩
          have e1 : (y : Int) * (W : Int) + (x : Int) = (i : Int) := by rw [hi]; simp
          rw [← hi] at hilt ex ey hcs
          have k2 := hb2.all3
          obtain ⟨vi, ci⟩ : ∃ v, wr.cell? ⟨w.heap.size + 1, i, none⟩ = some v := ⟨cs[i]'(by omega), by rw [hblk.cell]; simp⟩
          have fi := hblk.frozen i
          have hi2 : (i:Int) < (W:Int) * (H:Int) := by have := EWH.out; omega
          have h3 : (0:Int) ≤ (y:Int) * (W:Int) ∧ (y:Int) * (W:Int) ≤ 1048576 := by have := Int.natCast_mul y W; have := EWH.out; omega
          have Hi := Lib.hid hi; have Hcs := Lib.hid hcs; have Hex := Lib.hid ex; have Hey := Lib.hid ey
          clear hi hcs ex ey
          go_wp2_with fail
          refine wp_region_flow [(true, 0), (true, 1), (true, 2), (true, 3), (true, 4), (true, 5), (true, 6), (true, 7), (true, 8), (true, 9), (false, 10), (true, 11), (false, 12)] (fun i => i == 12) (by kernel_rfl) (by kernel_rfl) (by kernel_rfl) (by kernel_rfl) ?_
          iterate 1
            apply Flow.calm2 _ _ rfl rfl
            · intro w' hb' K' hK'
              obtain ⟨hc', hf'⟩ := hb'.rule
              go_simp
              try go_ints
              exact hK'
            · intro K' hK'
              simp only [Act.put, List.setIfInBounds_toArray, List.set_cons_zero, List.set_cons_succ]
              exact hK'
          iterate 1
            apply Flow.calm2 _ _ rfl rfl
            · intro w' hb' K' hK'
              obtain ⟨hc', hf'⟩ := hb'.rule
              go_simp
              try go_ints
              exact hK'
            · intro K' hK'
              simp only [Act.put, List.setIfInBounds_toArray, List.set_cons_zero, List.set_cons_succ]
              exact hK'
          iterate 2
            apply Flow.mv _ rfl
            · intro K' hK'
              simp only [Act.put, Act.eval, List.setIfInBounds_toArray, List.set_cons_zero, List.set_cons_succ, arr_getD, List.getD_cons_zero, List.getD_cons_succ]
              exact hK'
          iterate 1
            apply Flow.calm2 _ _ rfl rfl
            · intro w' hb' K' hK'
              obtain ⟨hc', hf'⟩ := hb'.rule
              go_simp
              try go_ints
              exact hK'
            · intro K' hK'
              simp only [Act.put, List.setIfInBounds_toArray, List.set_cons_zero, List.set_cons_succ]
              exact hK'
          iterate 1
            apply Flow.mv _ rfl
            · intro K' hK'
              simp only [Act.put, Act.eval, List.setIfInBounds_toArray, List.set_cons_zero, List.set_cons_succ, arr_getD, List.getD_cons_zero, List.getD_cons_succ]
              exact hK'
          iterate 1
            apply Flow.calm2 _ _ rfl rfl
            · intro w' hb' K' hK'
              obtain ⟨hc', hf'⟩ := hb'.rule
              go_simp
              try go_ints
              exact hK'
            · intro K' hK'
              simp only [Act.put, List.setIfInBounds_toArray, List.set_cons_zero, List.set_cons_succ]
              exact hK'
          iterate 3
            apply Flow.mv _ rfl
            · intro K' hK'
              simp only [Act.put, Act.eval, List.setIfInBounds_toArray, List.set_cons_zero, List.set_cons_succ, arr_getD, List.getD_cons_zero, List.getD_cons_succ]
              exact hK'
          apply Flow.move rfl
          go_wp2_with fail
          refine (hk.2 _ _ _ (hbl.trans (Bl.refl _).drew) hlt2 hlt).mono ?_
          rintro e w3 ⟨rfl, HB1⟩
          obtain ⟨hc3, hf3⟩ := HB1.rule
          go_wp2_with fail
          refine ⟨fun _ => (by first | exact HB1 | exact Bl.refl _), ?_⟩
          iterate 1
            apply Flow.calm2 _ _ rfl rfl
            · intro w' hb' K' hK'
              obtain ⟨hc', hf'⟩ := hb'.rule
              go_simp
              try go_ints
              exact hK'
            · intro K' hK'
              simp only [Act.put, List.setIfInBounds_toArray, List.set_cons_zero, List.set_cons_succ]
              exact hK'
          refine Flow.tail _ rfl ?_
          go_wp2_with fail
          have hb4 : Bl wr w3 := ((Bl.refl _).drew).trans HB1
          have hst : madeInv w W H f (w3.setCell ⟨w.heap.size + 1, i, none⟩ (Value.bool (f x y))) (i + 1) := by
            refine ⟨(hbl.trans hb4).setCell (by simp) _, ⟨_, (hblk.bl hb4).set_ i _, by simpa using hsz, fun j hj => ?_⟩, (hb2.bl hb4).far (by simp) _, (hb0.bl hb4).far (by simp) _⟩
            by_cases e : i = j
            · subst e
              rw [Hex.out, Hey.out]
              simp [hsz, hilt]
            · rw [Array.getElem?_setIfInBounds_ne e]; exact Hcs.out j (by omega)
          have Hst := Lib.hid hst; clear hst
          exact ⟨⟨x + 1, hlt2, by go_num, by have := Hst.out; rw [Hi.out] at this; simpa [Nat.add_assoc, Hi.out] using this⟩, by simp [intOf]; omega⟩
        · go_wp2_with fail
          exact ⟨⟨y + 1, hlt, by go_num, by rw [Nat.add_mul, Nat.one_mul]; rwa [show x = W by omega] at hinv2⟩, by simp [intOf]; omega⟩
    · have k2 := hinv.2.2.1.all3
      have k0 := hinv.2.2.2.all3
      go_wp2_with fail
      refine bodyPost_ret (v := .agg #[.int .i64 W, .int .i64 H, .slice (some ⟨w.heap.size + 1, 0, none⟩) (W * H) (W * H)]) (by simp [results, Tryz.results62, go_sem, k0]) rfl ?_
      obtain ⟨hbl, ⟨cs, hblk, hsz, hcs⟩, _, _⟩ := hinv
      refine ⟨_, rfl, ⟨_, _, rfl, ?_, fun ad h => by injection h with h; subst h; simp⟩, ?_⟩
      · have hb' := ((hblk.far (p := ⟨w.heap.size, 0, none⟩) (by simp) (.int .i64 W)).far (p := ⟨w.heap.size, 1, none⟩) (by simp) (.int .i64 H)).far (p := ⟨w.heap.size, 2, none⟩) (by simp) (.slice (some ⟨w.heap.size + 1, 0, none⟩) (W * H) (W * H))
        have hl : cs.toList = (grid W H f).map Value.bool := by
          apply List.ext_getElem?
          intro i
          rcases Nat.lt_or_ge i (W * H) with h | h
          · rw [List.getElem?_map, grid_at W H f i h]
            have := hcs i (by have := Nat.mul_comm W H; rw [show y = H by omega]; omega)
            simpa using this
          · rw [List.getElem?_eq_none (by simpa [hsz] using h), List.getElem?_eq_none (by simpa [grid_length] using h)]
        rw [← hl]
        exact hb'.reads (W * H) 1 (by omega)
      · exact ((hbl.setCell (by simp) _).setCell (by simp) _).setCell (by simp) _

def MadeInv (w : World) (W H : Nat) (f : Nat → Nat → Bool) (wr : World) (n : Nat) : Prop :=
  Bl w wr ∧ ∃ v, Blk wr w.heap.size 28 #[.int .i64 0, .int .i64 0, .slice none 0 0] ∧ Blk wr (w.heap.size + 1) 28 #[.int .i64 W, .int .i64 H, v] ∧
    w.heap.size + 2 ≤ wr.heap.size ∧ wr.ownsRow (w.heap.size + 2) 4 1 v n ((gridTo W f n).map Value.bool)

set_option maxRecDepth 100000 in
set_option maxHeartbeats 1000000 in
theorem Made_any (W H : Nat) (f : Nat → Nat → Bool) (k : FuncId) (cap : Array Value) (w : World) (hW : W ≤ 1048576) (hH : H ≤ 1048576) (hWH : W * H ≤ 17179869184) (hk : Paints Tryz.prog k cap Value.bool w W H f) :
    Calls Tryz.prog 115 #[.int .i64 W, .int .i64 H, .func (.func k) #[] cap] w fun e w' => ∃ v, e = .returned v ∧ NPage w.heap.size w' v W H ((grid W H f).map Value.bool) ∧ Bl w w' := by
  have hent := hk.1
  have inv0 : MadeInv w W H f ((w.alloc (.cells #[.int .i64 0, .int .i64 0, .slice none 0 0] 28)).alloc (.cells #[.int .i64 W, .int .i64 H, .slice none 0 0] 28)) 0 := by
    have b0 := Blk.new w 28 #[.int .i64 0, .int .i64 0, .slice none 0 0]
    have b1 := Blk.new (w.alloc (.cells #[.int .i64 0, .int .i64 0, .slice none 0 0] 28)) 28 #[.int .i64 W, .int .i64 H, .slice none 0 0]
    simp only [World.size_alloc] at b1
    exact ⟨((Bl.refl w).alloc _).alloc _, _, b0.alloc _, b1, by simp, World.ownsRow_nil _ _ _ _⟩
  have Inv0 := Lib.hid inv0; clear inv0
  go_enter Tryz.func115, Tryz.ntmps115
  go_wp2_with fail
  go_loopw [14] (fun u wr => ∃ y : Nat, y ≤ H ∧ u = .int .i64 y ∧ MadeInv w W H f wr (y * W)) (fun u _ => H - (intOf u).toNat)
  case atStart => exact ⟨0, Nat.zero_le _, rfl, by simpa using Inv0.out⟩
  case round =>
    obtain ⟨y, hy, rfl, hinv⟩ := hrel
    by_cases hlt : y < H
    · go_wp2_with fail
      go_loopw [18] (fun u wr => ∃ x : Nat, x ≤ W ∧ u = .int .i64 x ∧ MadeInv w W H f wr (y * W + x)) (fun u _ => W - (intOf u).toNat)
      case atStart => exact ⟨0, Nat.zero_le _, rfl, by simpa using hinv⟩
      case round =>
        obtain ⟨x, hx, rfl, hinv2⟩ := hrel
        by_cases hlt2 : x < W
        · obtain ⟨hbl, v, hb0, hb1, hsz, hown⟩ := hinv2
          have k1 := hb1.all3
          have hilt := place_lt hlt2 hlt
          have hgs := gridTo_succ W f Value.bool y x hlt2
          have Hgs := Lib.hid hgs; clear hgs
          go_wp2_with fail
          refine wp_region_flow [(true, 0), (true, 1), (true, 2), (true, 3), (true, 4), (false, 5), (false, 6), (false, 7), (true, 8), (false, 9)] (fun i => i == 7 || i == 9) (by kernel_rfl) (by kernel_rfl) (by kernel_rfl) (by kernel_rfl) ?_
          iterate 1
            apply Flow.calm2 _ _ rfl rfl
            · intro w' hb' K' hK'
              obtain ⟨hc', hf'⟩ := hb'.rule
              go_simp
              try go_ints
              exact hK'
            · intro K' hK'
              simp only [Act.put, List.setIfInBounds_toArray, List.set_cons_zero, List.set_cons_succ]
              exact hK'
          iterate 1
            apply Flow.calm2 _ _ rfl rfl
            · intro w' hb' K' hK'
              obtain ⟨hc', hf'⟩ := hb'.rule
              go_simp
              try go_ints
              exact hK'
            · intro K' hK'
              simp only [Act.put, List.setIfInBounds_toArray, List.set_cons_zero, List.set_cons_succ]
              exact hK'
          iterate 3
            apply Flow.mv _ rfl
            · intro K' hK'
              simp only [Act.put, Act.eval, List.setIfInBounds_toArray, List.set_cons_zero, List.set_cons_succ, arr_getD, List.getD_cons_zero, List.getD_cons_succ]
              exact hK'
          apply Flow.move rfl
          go_wp2_with fail
          refine (hk.2 _ _ _ (hbl.trans (Bl.refl _).drew) hlt2 hlt).mono ?_
          rintro e w3 ⟨rfl, HB1⟩
          have hb3 : Bl wr w3 := ((Bl.refl _).drew).trans HB1
          go_wp2_with fail
          refine ⟨fun _ => (by first | exact HB1 | exact Bl.refl _), ?_⟩
          apply Flow.move rfl
          go_wp2_with fail
          first | refine ⟨fun _ => ?_, ?_⟩ | refine ⟨?_, ?_⟩
          · repeat' (first | exact Bl.refl _ | refine Bl.drewL ?_ | refine Bl.drew ?_ | refine Bl.alloc ?_ _)
          apply Flow.move rfl
          refine wpList_append_one rfl (.tmp 22) (.tmp 27) 26 rfl 4 (.bool false) 1 Tryz.underlying26 info_bool rfl (w.heap.size + 2) v (y * W + x) _ rfl _ rfl rfl (hbl.trans hb3) (by omega) (Nat.le_trans hsz hb3.le) (own_bl hown hb3) (by omega) (by unfold maxLen; omega) ?_
          intro v' w4 hown' hbw4 hg4
          obtain ⟨A', c', rfl, _⟩ := own_reads hown'
          have hne : ∀ g, g < w.heap.size + 2 → some g ≠ v.ownBlock := fun g hg e => by have := (hown.lt g e.symm).1; omega
          have hb0' := ((hb0.bl hb3).alloc _).grown hg4 (hne _ (by omega))
          have hb1' := ((hb1.bl hb3).alloc _).grown hg4 (hne _ (by omega))
          have k4 := hb1'.all3
          have hs4 : w.heap.size + 2 ≤ w4.heap.size := by have h5 := hg4.size; have h6 := hb3.le; simp at h5; omega
          go_wp2_with fail
          refine ⟨fun hcl => absurd hcl (by decide), ?_⟩
          iterate 1
            apply Flow.calm2 _ _ rfl rfl
            · intro w' hb' K' hK'
              obtain ⟨hc', hf'⟩ := hb'.rule
              go_simp
              try go_ints
              exact hK'
            · intro K' hK'
              simp only [Act.put, List.setIfInBounds_toArray, List.set_cons_zero, List.set_cons_succ]
              exact hK'
          refine Flow.tail _ rfl ?_
          go_wp2_with fail
          have hst : MadeInv w W H f (w4.setCell ⟨w.heap.size + 1, 2, none⟩ (.slice A' (y * W + x + 1) c')) (y * W + x + 1) := by
            refine ⟨hbw4.setCell (by simp) _, _, hb0'.far (by simp) _, by simpa using hb1'.set_ 2 (.slice A' (y * W + x + 1) c'), by simpa using hs4, ?_⟩
            rw [Hgs.out]
            exact ownsRow_setCell_below hown' (by simp) _
          have Hst := Lib.hid hst; clear hst
          exact ⟨⟨x + 1, hlt2, by go_num, Hst.out⟩, by simp [intOf]; omega⟩
        · go_wp2_with fail
          exact ⟨⟨y + 1, hlt, by go_num, by rw [Nat.add_mul, Nat.one_mul]; rwa [show x = W by omega] at hinv2⟩, by simp [intOf]; omega⟩
    · obtain ⟨hbl, v, hb0, hb1, hsz, hown⟩ := hinv
      obtain rfl : y = H := by omega
      have k1 := hb1.all3
      have k0 := hb0.all3
      obtain ⟨A, c, rfl, hrd⟩ := own_reads hown
      go_wp2_with fail
      refine bodyPost_ret (v := .agg #[.int .i64 W, .int .i64 y, .slice A (y * W) c]) (by simp [results, Tryz.results115, go_sem, k0]) rfl ?_
      have hb' : Bl w (((wr.setCell ⟨w.heap.size, 0, none⟩ (.int .i64 W)).setCell ⟨w.heap.size, 1, none⟩ (.int .i64 y)).setCell ⟨w.heap.size, 2, none⟩ (.slice A (y * W) c)) := ((hbl.setCell (by simp) _).setCell (by simp) _).setCell (by simp) _
      have ho := ownsRow_setCell_below (ownsRow_setCell_below (ownsRow_setCell_below hown (a := ⟨w.heap.size, 0, none⟩) (by simp) (.int .i64 W)) (a := ⟨w.heap.size, 1, none⟩) (by simp) (.int .i64 y)) (a := ⟨w.heap.size, 2, none⟩) (by simp) (.slice A (y * W) c)
      obtain ⟨A', c', e', hrd', hnw⟩ := own_new ho
      injection e' with e1 e2 e3
      subst e1
      refine ⟨_, rfl, ⟨A, c, by rw [Nat.mul_comm W y], ?_, fun ad h => by have := hnw ad h; omega⟩, hb'⟩
      unfold grid
      rw [Nat.mul_comm W y]
      exact hrd'

/-! ### Gray -/
end Go.Proofs.YtjelhdpcaileiaaGreatDoor


/-! Whether two pages are the same; pages without anything; 'small'. -/
namespace Go.Proofs.YtjelhdpcaileiaaGreatDoor
open Go.RowKit

theorem eq_of_cells {α : Type} (xs ys : List α) (hl : xs.length = ys.length) (h : ∀ j, j < xs.length → xs[j]? = ys[j]?) : xs = ys := by
  apply List.ext_getElem?
  intro i
  rcases Nat.lt_or_ge i xs.length with hi | hi
  · exact h i hi
  · rw [List.getElem?_eq_none hi, List.getElem?_eq_none (by omega)]

def smallB (W H : Int) : Bool := decide (0 ≤ W ∧ W ≤ 200 ∧ 0 ≤ H ∧ H ≤ 200 ∧ W * H ≤ 10000)

/-! ### slices.Equal at bool -/
set_option maxRecDepth 100000 in
set_option maxHeartbeats 400000 in
theorem equalBits_any (A B : Option Addr) (c d : Nat) (xs ys : List Bool) (w : World) (hx : Reads w 1 A xs.length (xs.map Value.bool)) (hy : Reads w 1 B ys.length (ys.map Value.bool)) (hl : xs.length ≤ 1099511627776) :
    Calls Tryz.prog 159 #[.slice A xs.length c, .slice B ys.length d] w fun e w' => e = .returned (.bool (decide (xs = ys))) ∧ Bl w w' := by
  by_cases hlen : xs.length = ys.length
  · have hne : ((xs.length : Int) != (ys.length : Int)) = false := by simp [hlen]
    have hne2 : (xs.length != ys.length) = false := by simp [hlen]
    have Hlen := Lib.hid hlen; clear hlen
    go_enter Tryz.func159, Tryz.ntmps159
    go_wp2
    go_loopw [13] (fun v wr => ∃ k : Nat, k ≤ xs.length ∧ v = .int .i64 k ∧ Hid (∀ j, j < k → xs[j]? = ys[j]?) ∧ Bl w wr) (fun v _ => xs.length - (intOf v).toNat)
    case atStart => exact ⟨0, Nat.zero_le _, rfl, fun j hj => absurd hj (by omega), Bl.refl _⟩
    case round =>
      obtain ⟨k, hk, rfl, hz, hbr⟩ := hrel
      by_cases hlt : k < xs.length
      · have hlt' : k < ys.length := by have := Hlen.out; omega
        obtain ⟨ad, u, rfl, hu, hc⟩ := (hx.bl hbr).at_ hlt
        obtain ⟨bd, t, rfl, ht, hd⟩ := (hy.bl hbr).at_ hlt'
        have hu' : u = Value.bool xs[k] := by simpa [hlt] using hu.symm
        have ht' : t = Value.bool ys[k] := by simpa [hlt'] using ht.symm
        subst hu' ht'
        have Hx := Lib.hid hx; have Hy := Lib.hid hy
        clear hx hy hu ht
        have i1 : (k : Int) < (xs.length : Int) := by omega
        have i2 : (k : Int) < (ys.length : Int) := by omega
        by_cases h0 : xs[k] = ys[k]
        · have hb : (xs[k] != ys[k]) = false := by simp [h0]
          have hzz : Hid (∀ j, j < k + 1 → xs[j]? = ys[j]?) := fun j hj => by
            rcases Nat.lt_or_ge j k with h | h
            · exact hz.out j h
            · obtain rfl : j = k := by omega
              simp [hlt, hlt', h0]
          generalize xs[k] = xk at *
          generalize ys[k] = yk at *
          subst h0
          clear hb
          cases xk
          all_goals
            go_wp2
            refine wp_region_flow [(true, 0), (true, 1), (true, 2), (true, 3), (true, 4), (true, 5), (true, 6), (true, 7), (true, 8)] (fun _ => false) (by kernel_rfl) (by kernel_rfl) (by kernel_rfl) (by kernel_rfl) ?_
            iterate 2
              apply Flow.mv _ rfl
              · intro K' hK'
                simp only [Act.put, Act.eval, List.setIfInBounds_toArray, List.set_cons_zero, List.set_cons_succ, arr_getD, List.getD_cons_zero, List.getD_cons_succ]
                exact hK'
            iterate 1
              apply Flow.calm2 _ _ rfl rfl
              · intro w' hb' K' hK'
                obtain ⟨hc', hf'⟩ := hb'.rule
                go_simp
                try go_ints
                exact hK'
              · intro K' hK'
                simp only [Act.put, List.setIfInBounds_toArray, List.set_cons_zero, List.set_cons_succ]
                exact hK'
            iterate 1
              apply Flow.calm2 _ _ rfl rfl
              · intro w' hb' K' hK'
                obtain ⟨hc', hf'⟩ := hb'.rule
                go_simp
                try go_ints
                exact hK'
              · intro K' hK'
                simp only [Act.put, List.setIfInBounds_toArray, List.set_cons_zero, List.set_cons_succ]
                exact hK'
            iterate 2
              apply Flow.mv _ rfl
              · intro K' hK'
                simp only [Act.put, Act.eval, List.setIfInBounds_toArray, List.set_cons_zero, List.set_cons_succ, arr_getD, List.getD_cons_zero, List.getD_cons_succ]
                exact hK'
            iterate 1
              apply Flow.calm2 _ _ rfl rfl
              · intro w' hb' K' hK'
                obtain ⟨hc', hf'⟩ := hb'.rule
                go_simp
                try go_ints
                exact hK'
              · intro K' hK'
                simp only [Act.put, List.setIfInBounds_toArray, List.set_cons_zero, List.set_cons_succ]
                exact hK'
            iterate 1
              apply Flow.calm2 _ _ rfl rfl
              · intro w' hb' K' hK'
                obtain ⟨hc', hf'⟩ := hb'.rule
                go_simp
                try go_ints
                exact hK'
              · intro K' hK'
                simp only [Act.put, List.setIfInBounds_toArray, List.set_cons_zero, List.set_cons_succ]
                exact hK'
            iterate 1
              apply Flow.calm2 _ _ rfl rfl
              · intro w' hb' K' hK'
                obtain ⟨hc', hf'⟩ := hb'.rule
                go_simp
                try go_ints
                exact hK'
              · intro K' hK'
                simp only [Act.put, List.setIfInBounds_toArray, List.set_cons_zero, List.set_cons_succ]
                exact hK'
            refine Flow.done ?_
            go_wp2
            exact ⟨⟨k + 1, hlt, by go_num, hzz, hbr.drew⟩, by simp [intOf]; omega⟩
        · have hb : (xs[k] != ys[k]) = true := by simp [h0]
          have hf : ¬ xs = ys := fun e => h0 (by subst e; rfl)
          have H0 := Lib.hid hf; clear hf
          generalize xs[k] = xk at *
          generalize ys[k] = yk at *
          clear hb
          cases xk <;> cases yk <;> first | (exact absurd rfl h0) | clear h0
          all_goals
            go_wp2
            refine wp_region_flow [(true, 0), (true, 1), (true, 2), (true, 3), (true, 4), (true, 5), (true, 6), (true, 7), (true, 8)] (fun _ => false) (by kernel_rfl) (by kernel_rfl) (by kernel_rfl) (by kernel_rfl) ?_
            iterate 2
              apply Flow.mv _ rfl
              · intro K' hK'
                simp only [Act.put, Act.eval, List.setIfInBounds_toArray, List.set_cons_zero, List.set_cons_succ, arr_getD, List.getD_cons_zero, List.getD_cons_succ]
                exact hK'
            iterate 1
              apply Flow.calm2 _ _ rfl rfl
              · intro w' hb' K' hK'
                obtain ⟨hc', hf'⟩ := hb'.rule
                go_simp
                try go_ints
                exact hK'
              · intro K' hK'
                simp only [Act.put, List.setIfInBounds_toArray, List.set_cons_zero, List.set_cons_succ]
                exact hK'
            iterate 1
              apply Flow.calm2 _ _ rfl rfl
              · intro w' hb' K' hK'
                obtain ⟨hc', hf'⟩ := hb'.rule
                go_simp
                try go_ints
                exact hK'
              · intro K' hK'
                simp only [Act.put, List.setIfInBounds_toArray, List.set_cons_zero, List.set_cons_succ]
                exact hK'
            iterate 2
              apply Flow.mv _ rfl
              · intro K' hK'
                simp only [Act.put, Act.eval, List.setIfInBounds_toArray, List.set_cons_zero, List.set_cons_succ, arr_getD, List.getD_cons_zero, List.getD_cons_succ]
                exact hK'
            iterate 1
              apply Flow.calm2 _ _ rfl rfl
              · intro w' hb' K' hK'
                obtain ⟨hc', hf'⟩ := hb'.rule
                go_simp
                try go_ints
                exact hK'
              · intro K' hK'
                simp only [Act.put, List.setIfInBounds_toArray, List.set_cons_zero, List.set_cons_succ]
                exact hK'
            iterate 1
              apply Flow.calm2 _ _ rfl rfl
              · intro w' hb' K' hK'
                obtain ⟨hc', hf'⟩ := hb'.rule
                go_simp
                try go_ints
                exact hK'
              · intro K' hK'
                simp only [Act.put, List.setIfInBounds_toArray, List.set_cons_zero, List.set_cons_succ]
                exact hK'
            iterate 1
              apply Flow.calm2 _ _ rfl rfl
              · intro w' hb' K' hK'
                obtain ⟨hc', hf'⟩ := hb'.rule
                go_simp
                try go_ints
                exact hK'
              · intro K' hK'
                simp only [Act.put, List.setIfInBounds_toArray, List.set_cons_zero, List.set_cons_succ]
                exact hK'
            refine Flow.done ?_
            go_wp2
            go_ret
            exact ⟨ret_bool (by simp [H0.out]), hbr.drew⟩
      · have hf : xs = ys := eq_of_cells xs ys Hlen.out (fun j hj => hz.out j (by omega))
        have Hf := Lib.hid hf; clear hf
        have Hx := Lib.hid hx; have Hy := Lib.hid hy
        clear hx hy
        go_wp2
        go_ret
        exact ⟨ret_bool (by simp [Hf.out]), hbr⟩
  · have hne : ((xs.length : Int) != (ys.length : Int)) = true := by simp; omega
    have hne2 : (xs.length != ys.length) = true := by simp; omega
    have hf : ¬ xs = ys := fun e => hlen (by subst e; rfl)
    have Hf := Lib.hid hf
    clear hlen hx hy hf
    go_enter Tryz.func159, Tryz.ntmps159
    go_wp2
    go_ret
    exact ⟨ret_bool (by simp [Hf.out]), Bl.refl _⟩

/-! The same page. -/
set_option maxRecDepth 100000 in
set_option maxHeartbeats 400000 in
theorem sameBits_any (W H : Nat) (v u : Value) (xs : List Bool) (w : World) (hv : IsPage w v W H (xs.map Value.bool)) (hu : IsPage w u W H (xs.map Value.bool)) (hl : W * H ≤ 1099511627776) :
    Calls Tryz.prog 87 #[v, u] w fun e w' => e = .returned (.bool true) ∧ Bl w w' := by
  obtain ⟨A, c, rfl, hA⟩ := hv
  obtain ⟨B, d, rfl, hB⟩ := hu
  have hn : xs.length = W * H := by have := hA.1; simpa using this
  have heq := fun (w1 : World) (hb : Bl w w1) => equalBits_any A B c d xs xs w1 (by rw [hn]; exact hA.bl hb) (by rw [hn]; exact hB.bl hb) (by omega)
  rw [hn] at heq
  have Heq := Lib.hid heq; clear heq
  have Hn := Lib.hid hn
  clear hA hB hn
  go_enter Tryz.func87, Tryz.ntmps87
  go_wp2_with fail
  refine (Heq.out _ (((Bl.refl _).alloc _).alloc _)).mono ?_
  rintro e w1 ⟨rfl, hb1⟩
  go_wp2_with fail
  go_ret
  exact ⟨ret_bool (by simp), (((Bl.refl _).alloc _).alloc _).trans hb1⟩

/-! Nothing at all. -/
/-! ### slices.Equal at byte -/
/-! The same page. -/
/-! Nothing at all. -/
/-! ### bitsIs -/
/-- A function value that makes a page. -/
def MakesPage (P : Program) (k : FuncId) (cap : Array Value) (w : World) (W H : Nat) (cells : List Value) : Prop :=
  (∀ args w, (callFunc k args).run P w = .ok (.enter k args) w) ∧ ∀ wx, Bl w wx → Calls P k cap wx fun e w' => ∃ v, e = .returned v ∧ IsPage w' v W H cells ∧ Bl wx w'

end Go.Proofs.YtjelhdpcaileiaaGreatDoor


/-! The sum of a box, the square around a place, the means of a page. -/
namespace Go.Proofs.YtjelhdpcaileiaaGreatDoor
open Go.RowKit

/-! ### plain -/
/-- The sum of the values of a box: rows y to y + h, columns x to x + l. -/
def boxSum (v : Nat → Int) (W x y l h : Nat) : Int := sat v W (y + h) (x + l) - sat v W y (x + l) - sat v W (y + h) x + sat v W y x

theorem rowSum_mono {v : Nat → Int} (hv : ∀ i, 0 ≤ v i ∧ v i ≤ 255) (W y x : Nat) : ∀ l, rowSum v W y x ≤ rowSum v W y (x + l)
  | 0 => Int.le_refl _
  | l + 1 => Int.le_trans (rowSum_mono hv W y x l) (by rw [← Nat.add_assoc]; simp only [rowSum]; have := hv (y * W + (x + l)); omega)

/-! ### (*Sums).In -/
set_option maxRecDepth 100000 in
set_option maxHeartbeats 1000000 in
theorem sumsIn_any (p g W H : Nat) (v : Nat → Int) (hv : ∀ i, 0 ≤ v i ∧ v i ≤ 255) (x y l h : Nat) (w : World) (hs : IsSums w p g W H v) (hW : W ≤ 4000) (hH : H ≤ 4000) (hx : x + l ≤ W) (hy : y + h ≤ H) :
    Calls Tryz.prog 367 #[.pointer (some ⟨p, 0, none⟩), .agg #[.int .i64 x, .int .i64 y, .int .i64 l, .int .i64 h]] w fun e w' => e = .returned (.int .i64 (boxSum v W x y l h)) ∧ Bl w w' := by
  obtain ⟨hp, cs, hc, hz, hcs⟩ := hs
  have kp := hp.all3
  have lp := hp.lt
  have lg := hc.lt
  have cell : ∀ Y X, Y ≤ H → X ≤ W → Y * (W + 1) + X < (W + 1) * (H + 1) ∧ w.cell? ⟨g, Y * (W + 1) + X, none⟩ = some (.int .i64 (sat v W Y X)) := by
    intro Y X hY hX
    have m := Nat.mul_le_mul_right (W + 1) hY
    have e : (W + 1) * (H + 1) = H * (W + 1) + (W + 1) := by rw [Nat.mul_comm, Nat.add_mul]; omega
    have hlt : Y * (W + 1) + X < (W + 1) * (H + 1) := by omega
    exact ⟨hlt, by rw [hc.cell, hcs _ hlt, satAt_eq v W Y X hX]⟩
  have hN : (W + 1) * (H + 1) ≤ 16008001 := by
    have := Nat.mul_le_mul (show W + 1 ≤ 4001 by omega) (show H + 1 ≤ 4001 by omega)
    omega
  obtain ⟨n1, c1⟩ := cell (y + h) (x + l) hy hx
  obtain ⟨n2, c2⟩ := cell y (x + l) (by omega) hx
  obtain ⟨n3, c3⟩ := cell (y + h) x hy (by omega)
  obtain ⟨n4, c4⟩ := cell y x (by omega) (by omega)
  have b1 := sat_bd hv W (x + l) (by omega) (y + h)
  have b2 := sat_bd hv W (x + l) (by omega) y
  have b3 := sat_bd hv W x (by omega) (y + h)
  have b4 := sat_bd hv W x (by omega) y
  have hbox : boxSum v W x y l h = sat v W (y + h) (x + l) - sat v W y (x + l) - sat v W (y + h) x + sat v W y x := rfl
  generalize hs1 : sat v W (y + h) (x + l) = s1 at c1 b1 hbox
  generalize hs2 : sat v W y (x + l) = s2 at c2 b2 hbox
  generalize hs3 : sat v W (y + h) x = s3 at c3 b3 hbox
  generalize hs4 : sat v W y x = s4 at c4 b4 hbox
  generalize hi1 : (y + h) * (W + 1) + (x + l) = i1 at n1 c1
  generalize hi2 : y * (W + 1) + (x + l) = i2 at n2 c2
  generalize hi3 : (y + h) * (W + 1) + x = i3 at n3 c3
  generalize hi4 : y * (W + 1) + x = i4 at n4 c4
  have t1 : ((y : Int) + (h : Int)) * ((W : Int) + 1) + ((x : Int) + (l : Int)) = (i1 : Int) := by rw [← hi1]; simp
  have t2 : (y : Int) * ((W : Int) + 1) + ((x : Int) + (l : Int)) = (i2 : Int) := by rw [← hi2]; simp
  have t3 : ((y : Int) + (h : Int)) * ((W : Int) + 1) + (x : Int) = (i3 : Int) := by rw [← hi3]; simp
  have t4 : (y : Int) * ((W : Int) + 1) + (x : Int) = (i4 : Int) := by rw [← hi4]; simp
  have eN : ((W : Int) + 1) * ((H : Int) + 1) = (((W + 1) * (H + 1) : Nat) : Int) := by simp
  have l1 : (i1 : Int) < ((W : Int) + 1) * ((H : Int) + 1) := by omega
  have l2 : (i2 : Int) < ((W : Int) + 1) * ((H : Int) + 1) := by omega
  have l3 : (i3 : Int) < ((W : Int) + 1) * ((H : Int) + 1) := by omega
  have l4 : (i4 : Int) < ((W : Int) + 1) * ((H : Int) + 1) := by omega
  have p1 : (0 : Int) ≤ ((y : Int) + (h : Int)) * ((W : Int) + 1) ∧ ((y : Int) + (h : Int)) * ((W : Int) + 1) ≤ 16008001 := by
    have := Int.natCast_mul (y + h) (W + 1); simp at this; omega
  have p2 : (0 : Int) ≤ (y : Int) * ((W : Int) + 1) ∧ (y : Int) * ((W : Int) + 1) ≤ 16008001 := by
    have := Int.natCast_mul y (W + 1); simp at this; omega
  have Hbox := Lib.hid hbox
  clear hbox hs1 hs2 hs3 hs4 hi1 hi2 hi3 hi4 cell hcs hv eN
  go_enter Tryz.func367, Tryz.ntmps367
  go_wp2_with fail
  refine wp_region_flow [(true, 0), (true, 1), (true, 2), (true, 3), (true, 4), (true, 5), (true, 6), (true, 7), (true, 8), (true, 9), (true, 10), (true, 11)] (fun _ => false) (by kernel_rfl) (by kernel_rfl) (by kernel_rfl) (by kernel_rfl) ?_
  iterate 1
    apply Flow.calm2 _ _ rfl rfl
    · intro w' hb' K' hK'
      obtain ⟨hc', hf'⟩ := hb'.rule
      go_simp
      try go_ints
      exact hK'
    · intro K' hK'
      simp only [Act.put, List.setIfInBounds_toArray, List.set_cons_zero, List.set_cons_succ]
      exact hK'
  iterate 1
    apply Flow.calm2 _ _ rfl rfl
    · intro w' hb' K' hK'
      obtain ⟨hc', hf'⟩ := hb'.rule
      go_simp
      try go_ints
      exact hK'
    · intro K' hK'
      simp only [Act.put, List.setIfInBounds_toArray, List.set_cons_zero, List.set_cons_succ]
      exact hK'
  iterate 1
    apply Flow.calm2 _ _ rfl rfl
    · intro w' hb' K' hK'
      obtain ⟨hc', hf'⟩ := hb'.rule
      go_simp
      try go_ints
      exact hK'
    · intro K' hK'
      simp only [Act.put, List.setIfInBounds_toArray, List.set_cons_zero, List.set_cons_succ]
      exact hK'
  iterate 1
    apply Flow.calm2 _ _ rfl rfl
    · intro w' hb' K' hK'
      obtain ⟨hc', hf'⟩ := hb'.rule
      go_simp
      try go_ints
      exact hK'
    · intro K' hK'
      simp only [Act.put, List.setIfInBounds_toArray, List.set_cons_zero, List.set_cons_succ]
      exact hK'
  iterate 1
    apply Flow.calm2 _ _ rfl rfl
    · intro w' hb' K' hK'
      obtain ⟨hc', hf'⟩ := hb'.rule
      go_simp
      try go_ints
      exact hK'
    · intro K' hK'
      simp only [Act.put, List.setIfInBounds_toArray, List.set_cons_zero, List.set_cons_succ]
      exact hK'
  iterate 1
    apply Flow.calm2 _ _ rfl rfl
    · intro w' hb' K' hK'
      obtain ⟨hc', hf'⟩ := hb'.rule
      go_simp
      try go_ints
      exact hK'
    · intro K' hK'
      simp only [Act.put, List.setIfInBounds_toArray, List.set_cons_zero, List.set_cons_succ]
      exact hK'
  iterate 1
    apply Flow.calm2 _ _ rfl rfl
    · intro w' hb' K' hK'
      obtain ⟨hc', hf'⟩ := hb'.rule
      go_simp
      try go_ints
      exact hK'
    · intro K' hK'
      simp only [Act.put, List.setIfInBounds_toArray, List.set_cons_zero, List.set_cons_succ]
      exact hK'
  iterate 1
    apply Flow.calm2 _ _ rfl rfl
    · intro w' hb' K' hK'
      obtain ⟨hc', hf'⟩ := hb'.rule
      go_simp
      try go_ints
      exact hK'
    · intro K' hK'
      simp only [Act.put, List.setIfInBounds_toArray, List.set_cons_zero, List.set_cons_succ]
      exact hK'
  iterate 1
    apply Flow.calm2 _ _ rfl rfl
    · intro w' hb' K' hK'
      obtain ⟨hc', hf'⟩ := hb'.rule
      go_simp
      try go_ints
      exact hK'
    · intro K' hK'
      simp only [Act.put, List.setIfInBounds_toArray, List.set_cons_zero, List.set_cons_succ]
      exact hK'
  iterate 1
    apply Flow.calm2 _ _ rfl rfl
    · intro w' hb' K' hK'
      obtain ⟨hc', hf'⟩ := hb'.rule
      go_simp
      try go_ints
      exact hK'
    · intro K' hK'
      simp only [Act.put, List.setIfInBounds_toArray, List.set_cons_zero, List.set_cons_succ]
      exact hK'
  iterate 2
    apply Flow.asg _ rfl
    · intro K' hK'
      simp only [Act.put, Act.eval, List.setIfInBounds_toArray, List.set_cons_zero, List.set_cons_succ, arr_getD, List.getD_cons_zero, List.getD_cons_succ]
      exact hK'
  refine Flow.done ?_
  go_wp2_with fail
  refine wp_region_flow [(true, 0), (true, 1), (true, 2), (true, 3), (true, 4), (true, 5), (true, 6), (true, 7), (true, 8), (true, 9), (true, 10), (true, 11), (true, 12), (true, 13), (true, 14), (true, 15), (true, 16), (true, 17), (true, 18), (true, 19), (true, 20), (true, 21), (true, 22), (true, 23), (true, 24), (true, 25), (true, 26), (true, 27), (true, 28), (true, 29), (true, 30), (true, 31), (true, 32), (true, 33), (true, 34), (true, 35), (true, 36), (true, 37), (true, 38), (true, 39), (true, 40), (true, 41), (true, 42), (true, 43), (true, 44), (true, 45), (true, 46), (true, 47), (true, 48), (true, 49), (true, 50), (true, 51)] (fun _ => false) (by kernel_rfl) (by kernel_rfl) (by kernel_rfl) (by kernel_rfl) ?_
  iterate 1
    apply Flow.mv _ rfl
    · intro K' hK'
      simp only [Act.put, Act.eval, List.setIfInBounds_toArray, List.set_cons_zero, List.set_cons_succ, arr_getD, List.getD_cons_zero]
      exact hK'
  iterate 1
    apply Flow.calm2 _ _ rfl rfl
    · intro w' hb' K' hK'
      obtain ⟨hc', hf'⟩ := hb'.rule
      go_simp
      try go_ints
      exact hK'
    · intro K' hK'
      simp only [Act.put, List.setIfInBounds_toArray, List.set_cons_zero, List.set_cons_succ]
      exact hK'
  iterate 1
    apply Flow.calm2 _ _ rfl rfl
    · intro w' hb' K' hK'
      obtain ⟨hc', hf'⟩ := hb'.rule
      go_simp
      try go_ints
      exact hK'
    · intro K' hK'
      simp only [Act.put, List.setIfInBounds_toArray, List.set_cons_zero, List.set_cons_succ]
      exact hK'
  iterate 1
    apply Flow.calm2 _ _ rfl rfl
    · intro w' hb' K' hK'
      obtain ⟨hc', hf'⟩ := hb'.rule
      go_simp
      try go_ints
      exact hK'
    · intro K' hK'
      simp only [Act.put, List.setIfInBounds_toArray, List.set_cons_zero, List.set_cons_succ]
      exact hK'
  iterate 2
    apply Flow.mv _ rfl
    · intro K' hK'
      simp only [Act.put, Act.eval, List.setIfInBounds_toArray, List.set_cons_zero, List.set_cons_succ, arr_getD, List.getD_cons_zero, List.getD_cons_succ]
      exact hK'
  iterate 1
    apply Flow.calm2 _ _ rfl rfl
    · intro w' hb' K' hK'
      obtain ⟨hc', hf'⟩ := hb'.rule
      go_simp
      try go_ints
      exact hK'
    · intro K' hK'
      simp only [Act.put, List.setIfInBounds_toArray, List.set_cons_zero, List.set_cons_succ]
      exact hK'
  iterate 1
    apply Flow.mv _ rfl
    · intro K' hK'
      simp only [Act.put, Act.eval, List.setIfInBounds_toArray, List.set_cons_zero, List.set_cons_succ, arr_getD, List.getD_cons_zero, List.getD_cons_succ]
      exact hK'
  iterate 1
    apply Flow.calm2 _ _ rfl rfl
    · intro w' hb' K' hK'
      obtain ⟨hc', hf'⟩ := hb'.rule
      go_simp
      try go_ints
      exact hK'
    · intro K' hK'
      simp only [Act.put, List.setIfInBounds_toArray, List.set_cons_zero, List.set_cons_succ]
      exact hK'
  iterate 1
    apply Flow.calm2 _ _ rfl rfl
    · intro w' hb' K' hK'
      obtain ⟨hc', hf'⟩ := hb'.rule
      go_simp
      try go_ints
      exact hK'
    · intro K' hK'
      simp only [Act.put, List.setIfInBounds_toArray, List.set_cons_zero, List.set_cons_succ]
      exact hK'
  iterate 1
    apply Flow.calm2 _ _ rfl rfl
    · intro w' hb' K' hK'
      obtain ⟨hc', hf'⟩ := hb'.rule
      go_simp
      try go_ints
      exact hK'
    · intro K' hK'
      simp only [Act.put, List.setIfInBounds_toArray, List.set_cons_zero, List.set_cons_succ]
      exact hK'
  iterate 1
    apply Flow.mv _ rfl
    · intro K' hK'
      simp only [Act.put, Act.eval, List.setIfInBounds_toArray, List.set_cons_zero, List.set_cons_succ, arr_getD, List.getD_cons_zero]
      exact hK'
  iterate 1
    apply Flow.calm2 _ _ rfl rfl
    · intro w' hb' K' hK'
      obtain ⟨hc', hf'⟩ := hb'.rule
      go_simp
      try go_ints
      exact hK'
    · intro K' hK'
      simp only [Act.put, List.setIfInBounds_toArray, List.set_cons_zero, List.set_cons_succ]
      exact hK'
  iterate 1
    apply Flow.calm2 _ _ rfl rfl
    · intro w' hb' K' hK'
      obtain ⟨hc', hf'⟩ := hb'.rule
      go_simp
      try go_ints
      exact hK'
    · intro K' hK'
      simp only [Act.put, List.setIfInBounds_toArray, List.set_cons_zero, List.set_cons_succ]
      exact hK'
  iterate 1
    apply Flow.calm2 _ _ rfl rfl
    · intro w' hb' K' hK'
      obtain ⟨hc', hf'⟩ := hb'.rule
      go_simp
      try go_ints
      exact hK'
    · intro K' hK'
      simp only [Act.put, List.setIfInBounds_toArray, List.set_cons_zero, List.set_cons_succ]
      exact hK'
  iterate 1
    apply Flow.calm2 _ _ rfl rfl
    · intro w' hb' K' hK'
      obtain ⟨hc', hf'⟩ := hb'.rule
      go_simp
      try go_ints
      exact hK'
    · intro K' hK'
      simp only [Act.put, List.setIfInBounds_toArray, List.set_cons_zero, List.set_cons_succ]
      exact hK'
  iterate 1
    apply Flow.calm2 _ _ rfl rfl
    · intro w' hb' K' hK'
      obtain ⟨hc', hf'⟩ := hb'.rule
      go_simp
      try go_ints
      exact hK'
    · intro K' hK'
      simp only [Act.put, List.setIfInBounds_toArray, List.set_cons_zero, List.set_cons_succ]
      exact hK'
  iterate 1
    apply Flow.mv _ rfl
    · intro K' hK'
      simp only [Act.put, Act.eval, List.setIfInBounds_toArray, List.set_cons_zero, List.set_cons_succ, arr_getD, List.getD_cons_zero, List.getD_cons_succ]
      exact hK'
  iterate 1
    apply Flow.calm2 _ _ rfl rfl
    · intro w' hb' K' hK'
      obtain ⟨hc', hf'⟩ := hb'.rule
      go_simp
      try go_ints
      exact hK'
    · intro K' hK'
      simp only [Act.put, List.setIfInBounds_toArray, List.set_cons_zero, List.set_cons_succ]
      exact hK'
  iterate 1
    apply Flow.mv _ rfl
    · intro K' hK'
      simp only [Act.put, Act.eval, List.setIfInBounds_toArray, List.set_cons_zero, List.set_cons_succ, arr_getD, List.getD_cons_zero, List.getD_cons_succ]
      exact hK'
  iterate 1
    apply Flow.calm2 _ _ rfl rfl
    · intro w' hb' K' hK'
      obtain ⟨hc', hf'⟩ := hb'.rule
      go_simp
      try go_ints
      exact hK'
    · intro K' hK'
      simp only [Act.put, List.setIfInBounds_toArray, List.set_cons_zero, List.set_cons_succ]
      exact hK'
  iterate 1
    apply Flow.calm2 _ _ rfl rfl
    · intro w' hb' K' hK'
      obtain ⟨hc', hf'⟩ := hb'.rule
      go_simp
      try go_ints
      exact hK'
    · intro K' hK'
      simp only [Act.put, List.setIfInBounds_toArray, List.set_cons_zero, List.set_cons_succ]
      exact hK'
  iterate 1
    apply Flow.calm2 _ _ rfl rfl
    · intro w' hb' K' hK'
      obtain ⟨hc', hf'⟩ := hb'.rule
      go_simp
      try go_ints
      exact hK'
    · intro K' hK'
      simp only [Act.put, List.setIfInBounds_toArray, List.set_cons_zero, List.set_cons_succ]
      exact hK'
  iterate 1
    apply Flow.calm2 _ _ rfl rfl
    · intro w' hb' K' hK'
      obtain ⟨hc', hf'⟩ := hb'.rule
      go_simp
      try go_ints
      exact hK'
    · intro K' hK'
      simp only [Act.put, List.setIfInBounds_toArray, List.set_cons_zero, List.set_cons_succ]
      exact hK'
  iterate 1
    apply Flow.mv _ rfl
    · intro K' hK'
      simp only [Act.put, Act.eval, List.setIfInBounds_toArray, List.set_cons_zero, List.set_cons_succ, arr_getD, List.getD_cons_zero]
      exact hK'
  iterate 1
    apply Flow.calm2 _ _ rfl rfl
    · intro w' hb' K' hK'
      obtain ⟨hc', hf'⟩ := hb'.rule
      go_simp
      try go_ints
      exact hK'
    · intro K' hK'
      simp only [Act.put, List.setIfInBounds_toArray, List.set_cons_zero, List.set_cons_succ]
      exact hK'
  iterate 1
    apply Flow.calm2 _ _ rfl rfl
    · intro w' hb' K' hK'
      obtain ⟨hc', hf'⟩ := hb'.rule
      go_simp
      try go_ints
      exact hK'
    · intro K' hK'
      simp only [Act.put, List.setIfInBounds_toArray, List.set_cons_zero, List.set_cons_succ]
      exact hK'
  iterate 1
    apply Flow.calm2 _ _ rfl rfl
    · intro w' hb' K' hK'
      obtain ⟨hc', hf'⟩ := hb'.rule
      go_simp
      try go_ints
      exact hK'
    · intro K' hK'
      simp only [Act.put, List.setIfInBounds_toArray, List.set_cons_zero, List.set_cons_succ]
      exact hK'
  iterate 2
    apply Flow.mv _ rfl
    · intro K' hK'
      simp only [Act.put, Act.eval, List.setIfInBounds_toArray, List.set_cons_zero, List.set_cons_succ, arr_getD, List.getD_cons_zero, List.getD_cons_succ]
      exact hK'
  iterate 1
    apply Flow.calm2 _ _ rfl rfl
    · intro w' hb' K' hK'
      obtain ⟨hc', hf'⟩ := hb'.rule
      go_simp
      try go_ints
      exact hK'
    · intro K' hK'
      simp only [Act.put, List.setIfInBounds_toArray, List.set_cons_zero, List.set_cons_succ]
      exact hK'
  iterate 1
    apply Flow.calm2 _ _ rfl rfl
    · intro w' hb' K' hK'
      obtain ⟨hc', hf'⟩ := hb'.rule
      go_simp
      try go_ints
      exact hK'
    · intro K' hK'
      simp only [Act.put, List.setIfInBounds_toArray, List.set_cons_zero, List.set_cons_succ]
      exact hK'
  iterate 1
    apply Flow.calm2 _ _ rfl rfl
    · intro w' hb' K' hK'
      obtain ⟨hc', hf'⟩ := hb'.rule
      go_simp
      try go_ints
      exact hK'
    · intro K' hK'
      simp only [Act.put, List.setIfInBounds_toArray, List.set_cons_zero, List.set_cons_succ]
      exact hK'
  iterate 1
    apply Flow.calm2 _ _ rfl rfl
    · intro w' hb' K' hK'
      obtain ⟨hc', hf'⟩ := hb'.rule
      go_simp
      try go_ints
      exact hK'
    · intro K' hK'
      simp only [Act.put, List.setIfInBounds_toArray, List.set_cons_zero, List.set_cons_succ]
      exact hK'
  iterate 1
    apply Flow.calm2 _ _ rfl rfl
    · intro w' hb' K' hK'
      obtain ⟨hc', hf'⟩ := hb'.rule
      go_simp
      try go_ints
      exact hK'
    · intro K' hK'
      simp only [Act.put, List.setIfInBounds_toArray, List.set_cons_zero, List.set_cons_succ]
      exact hK'
  iterate 1
    apply Flow.calm2 _ _ rfl rfl
    · intro w' hb' K' hK'
      obtain ⟨hc', hf'⟩ := hb'.rule
      go_simp
      try go_ints
      exact hK'
    · intro K' hK'
      simp only [Act.put, List.setIfInBounds_toArray, List.set_cons_zero, List.set_cons_succ]
      exact hK'
  iterate 1
    apply Flow.calm2 _ _ rfl rfl
    · intro w' hb' K' hK'
      obtain ⟨hc', hf'⟩ := hb'.rule
      go_simp
      try go_ints
      exact hK'
    · intro K' hK'
      simp only [Act.put, List.setIfInBounds_toArray, List.set_cons_zero, List.set_cons_succ]
      exact hK'
  iterate 1
    apply Flow.mv _ rfl
    · intro K' hK'
      simp only [Act.put, Act.eval, List.setIfInBounds_toArray, List.set_cons_zero, List.set_cons_succ, arr_getD, List.getD_cons_zero]
      exact hK'
  iterate 1
    apply Flow.calm2 _ _ rfl rfl
    · intro w' hb' K' hK'
      obtain ⟨hc', hf'⟩ := hb'.rule
      go_simp
      try go_ints
      exact hK'
    · intro K' hK'
      simp only [Act.put, List.setIfInBounds_toArray, List.set_cons_zero, List.set_cons_succ]
      exact hK'
  iterate 1
    apply Flow.calm2 _ _ rfl rfl
    · intro w' hb' K' hK'
      obtain ⟨hc', hf'⟩ := hb'.rule
      go_simp
      try go_ints
      exact hK'
    · intro K' hK'
      simp only [Act.put, List.setIfInBounds_toArray, List.set_cons_zero, List.set_cons_succ]
      exact hK'
  iterate 1
    apply Flow.calm2 _ _ rfl rfl
    · intro w' hb' K' hK'
      obtain ⟨hc', hf'⟩ := hb'.rule
      go_simp
      try go_ints
      exact hK'
    · intro K' hK'
      simp only [Act.put, List.setIfInBounds_toArray, List.set_cons_zero, List.set_cons_succ]
      exact hK'
  iterate 1
    apply Flow.calm2 _ _ rfl rfl
    · intro w' hb' K' hK'
      obtain ⟨hc', hf'⟩ := hb'.rule
      go_simp
      try go_ints
      exact hK'
    · intro K' hK'
      simp only [Act.put, List.setIfInBounds_toArray, List.set_cons_zero, List.set_cons_succ]
      exact hK'
  iterate 1
    apply Flow.calm2 _ _ rfl rfl
    · intro w' hb' K' hK'
      obtain ⟨hc', hf'⟩ := hb'.rule
      go_simp
      try go_ints
      exact hK'
    · intro K' hK'
      simp only [Act.put, List.setIfInBounds_toArray, List.set_cons_zero, List.set_cons_succ]
      exact hK'
  iterate 1
    apply Flow.mv _ rfl
    · intro K' hK'
      simp only [Act.put, Act.eval, List.setIfInBounds_toArray, List.set_cons_zero, List.set_cons_succ, arr_getD, List.getD_cons_zero, List.getD_cons_succ]
      exact hK'
  iterate 1
    apply Flow.calm2 _ _ rfl rfl
    · intro w' hb' K' hK'
      obtain ⟨hc', hf'⟩ := hb'.rule
      go_simp
      try go_ints
      exact hK'
    · intro K' hK'
      simp only [Act.put, List.setIfInBounds_toArray, List.set_cons_zero, List.set_cons_succ]
      exact hK'
  iterate 1
    apply Flow.calm2 _ _ rfl rfl
    · intro w' hb' K' hK'
      obtain ⟨hc', hf'⟩ := hb'.rule
      go_simp
      try go_ints
      exact hK'
    · intro K' hK'
      simp only [Act.put, List.setIfInBounds_toArray, List.set_cons_zero, List.set_cons_succ]
      exact hK'
  iterate 1
    apply Flow.calm2 _ _ rfl rfl
    · intro w' hb' K' hK'
      obtain ⟨hc', hf'⟩ := hb'.rule
      go_simp
      try go_ints
      exact hK'
    · intro K' hK'
      simp only [Act.put, List.setIfInBounds_toArray, List.set_cons_zero, List.set_cons_succ]
      exact hK'
  iterate 1
    apply Flow.calm2 _ _ rfl rfl
    · intro w' hb' K' hK'
      obtain ⟨hc', hf'⟩ := hb'.rule
      go_simp
      try go_ints
      exact hK'
    · intro K' hK'
      simp only [Act.put, List.setIfInBounds_toArray, List.set_cons_zero, List.set_cons_succ]
      exact hK'
  iterate 1
    apply Flow.calm2 _ _ rfl rfl
    · intro w' hb' K' hK'
      obtain ⟨hc', hf'⟩ := hb'.rule
      go_simp
      try go_ints
      exact hK'
    · intro K' hK'
      simp only [Act.put, List.setIfInBounds_toArray, List.set_cons_zero, List.set_cons_succ]
      exact hK'
  iterate 1
    apply Flow.calm2 _ _ rfl rfl
    · intro w' hb' K' hK'
      obtain ⟨hc', hf'⟩ := hb'.rule
      go_simp
      try go_ints
      exact hK'
    · intro K' hK'
      simp only [Act.put, List.setIfInBounds_toArray, List.set_cons_zero, List.set_cons_succ]
      exact hK'
  iterate 1
    apply Flow.calm2 _ _ rfl rfl
    · intro w' hb' K' hK'
      obtain ⟨hc', hf'⟩ := hb'.rule
      go_simp
      try go_ints
      exact hK'
    · intro K' hK'
      simp only [Act.put, List.setIfInBounds_toArray, List.set_cons_zero, List.set_cons_succ]
      exact hK'
  iterate 1
    apply Flow.asg _ rfl
    · intro K' hK'
      simp only [Act.put, Act.eval, List.setIfInBounds_toArray, List.set_cons_zero, List.set_cons_succ, arr_getD, List.getD_cons_zero, List.getD_cons_succ]
      exact hK'
  refine Flow.done ?_
  go_wp2_with fail
  go_ret
  exact ⟨ret_int Hbox.out.symm, (((Bl.refl _).alloc _).drew).drew⟩

/-! ### (*Sums).Around -/
/-- From which place on, how far, the square around a place goes. -/
def from_ (x r : Nat) : Nat := x - r
def long_ (x r W : Nat) : Nat := min (x + r + 1) W - (x - r)
theorem long_pos {x r W : Nat} (hx : x < W) : 1 ≤ long_ x r W ∧ from_ x r + long_ x r W ≤ W := by unfold long_ from_; omega

end Go.Proofs.YtjelhdpcaileiaaGreatDoor


/-! page.Means; slices.Equal of numbers; blank pages. -/
namespace Go.Proofs.YtjelhdpcaileiaaGreatDoor
open Go.RowKit

/-- A byte list reads as bytes. -/
def Bytes (zs : List Int) : Prop := ∀ z ∈ zs, 0 ≤ z ∧ z ≤ 255
def valOf (zs : List Int) (i : Nat) : Int := zs.getD i 0
theorem Bytes.at {zs : List Int} (h : Bytes zs) (i : Nat) : 0 ≤ valOf zs i ∧ valOf zs i ≤ 255 := by
  unfold valOf
  rcases Nat.lt_or_ge i zs.length with hl | hl
  · have := h zs[i] (List.getElem_mem hl)
    simpa [List.getD, hl] using this
  · simp [List.getD, List.getElem?_eq_none hl]

def meansErr (W H : Int) (n : Nat) (r : Int) : Int := if pageErr W H n = 0 then (if inB r 0 200 then 0 else 3) else pageErr W H n
theorem meansErr_first (W H : Int) (n : Nat) (r : Int) : firstNZ [pageErr W H n, whenI (!inB r 0 200) 3] = meansErr W H n r := by
  unfold meansErr
  by_cases h : pageErr W H n = 0
  · rw [if_pos h, h]
    cases inB r 0 200 <;> simp [firstNZ, whenI]
  · rw [if_neg h]; simp [firstNZ, h]

theorem boxSum_succ (v : Nat → Int) (W x y l h : Nat) : boxSum v W x y l (h + 1) = boxSum v W x y l h + (rowSum v W (y + h) (x + l) - rowSum v W (y + h) x) := by
  unfold boxSum
  rw [← Nat.add_assoc]
  simp only [sat]
  omega
theorem rowDiff_bd {v : Nat → Int} (hv : ∀ i, 0 ≤ v i ∧ v i ≤ 255) (W y x : Nat) : ∀ l, 0 ≤ rowSum v W y (x + l) - rowSum v W y x ∧ rowSum v W y (x + l) - rowSum v W y x ≤ 255 * l
  | 0 => by simp
  | l + 1 => by
    have := rowDiff_bd hv W y x l
    have := hv (y * W + (x + l))
    rw [← Nat.add_assoc]
    simp only [rowSum]
    omega
theorem boxSum_bd {v : Nat → Int} (hv : ∀ i, 0 ≤ v i ∧ v i ≤ 255) (W x y l : Nat) (hl : l ≤ 4000) : ∀ h, 0 ≤ boxSum v W x y l h ∧ boxSum v W x y l h ≤ 1020000 * h
  | 0 => by simp [boxSum]; omega
  | h + 1 => by
    have := boxSum_bd hv W x y l hl h
    have := rowDiff_bd hv W (y + h) x l
    rw [boxSum_succ]
    omega

/-- The mean around place number i. -/
def meanAt (zs : List Int) (W H r i : Nat) : Int :=
  roundI (boxSum (valOf zs) W (from_ (i % W) r) (from_ (i / W) r) (long_ (i % W) r W) (long_ (i / W) r H)) ((long_ (i % W) r W : Int) * (long_ (i / W) r H : Int))

def MeansInv (w : World) (B : Nat) (zs : List Int) (W H r : Nat) (wr : World) (m : Nat) : Prop :=
  Bl w wr ∧ ∃ cs : Array Value, Blk wr B 3 cs ∧ cs.size = W * H ∧ ∀ k, k < m → cs[k]? = some (.int .i64 (meanAt zs W H r k))

end Go.Proofs.YtjelhdpcaileiaaGreatDoor


/-! At, halving and pasting. -/
namespace Go.Proofs.YtjelhdpcaileiaaGreatDoor
open Go.RowKit

/-! ### plain -/
/-- The ink at a place, also beyond the page. -/
def atI (bs : List Bool) (W H x y : Int) : Bool := decide (0 ≤ x ∧ x < W ∧ 0 ≤ y ∧ y < H) && bs.getD (y.toNat * W.toNat + x.toNat) false
def pix (bs : List Bool) (W x y : Nat) : Bool := bs.getD (y * W + x) false
theorem atI_in (bs : List Bool) (W H x y : Nat) (hx : x < W) (hy : y < H) : atI bs W H x y = pix bs W x y := by
  unfold atI pix
  have : decide (0 ≤ (x : Int) ∧ (x : Int) < W ∧ 0 ≤ (y : Int) ∧ (y : Int) < H) = true := by simp; omega
  rw [this]; simp
theorem atI_out (bs : List Bool) (W H x y : Int) (h : ¬ (0 ≤ x ∧ x < W ∧ 0 ≤ y ∧ y < H)) : atI bs W H x y = false := by
  unfold atI; simp only [h]; simp

/-- The cell of a place. -/
theorem Reads.place {w : World} {A : Option Addr} {W H : Nat} {bs : List Bool} (h : Reads w 1 A (W * H) (bs.map .bool)) {x y : Nat} (hx : x < W) (hy : y < H) :
    ∃ ad, A = some ad ∧ w.cell? (ad.add (y * W + x)) = some (.bool (pix bs W x y)) := by
  have hk := place_lt hx hy
  obtain ⟨ad, u, e, hu, hc⟩ := h.at_ hk
  refine ⟨ad, e, ?_⟩
  have hl : y * W + x < bs.length := by have := h.1; simp at this; omega
  have hu' : u = .bool (pix bs W x y) := by simpa [pix, List.getD, hl] using hu.symm
  rw [hc, hu']

/-! ### bedref2.At -/
set_option maxRecDepth 100000 in
set_option maxHeartbeats 1000000 in
theorem at_any (W H : Nat) (A : Option Addr) (c : Nat) (bs : List Bool) (x y : Int) (w : World) (hr : Reads w 1 A (W * H) (bs.map .bool)) (hW : W ≤ 4000) (hH : H ≤ 4000) :
    Calls Tryz.prog 117 #[.agg #[.int .i64 W, .int .i64 H, .slice A (W * H) c], .int .i64 x, .int .i64 y] w fun e w' => e = .returned (.bool (atI bs W H x y)) ∧ Bl w w' := by
  cases h1 : inB x 0 ((W : Int) - 1)
  case false =>
    have ha : atI bs W H x y = false := atI_out _ _ _ _ _ (by have := inB_false.1 h1; omega)
    have Ha := Lib.hid ha; clear ha hr
    go_enter Tryz.func117, Tryz.ntmps117
    go_wp2_with (go_at_call 24; refine (in_any _ _ _ _).mono ?_; rintro e w' ⟨rfl, rfl⟩)
    go_ret
    exact ⟨ret_bool Ha.out.symm, (Bl.refl _).alloc _⟩
  case true =>
    cases h2 : inB y 0 ((H : Int) - 1)
    case false =>
      have ha : atI bs W H x y = false := atI_out _ _ _ _ _ (by have := inB_false.1 h2; omega)
      have Ha := Lib.hid ha; clear ha hr
      go_enter Tryz.func117, Tryz.ntmps117
      go_wp2_with (go_at_call 24; refine (in_any _ _ _ _).mono ?_; rintro e w' ⟨rfl, rfl⟩)
      go_ret
      exact ⟨ret_bool Ha.out.symm, (Bl.refl _).alloc _⟩
    case true =>
      obtain ⟨a1, a2⟩ := inB_true.1 h1
      obtain ⟨b1, b2⟩ := inB_true.1 h2
      obtain ⟨x, rfl⟩ := Int.eq_ofNat_of_zero_le a1
      obtain ⟨y, rfl⟩ := Int.eq_ofNat_of_zero_le b1
      have hx : x < W := by omega
      have hy : y < H := by omega
      have ha := atI_in bs W H x y hx hy
      obtain ⟨ad, rfl, hc⟩ := hr.place hx hy
      have hk := place_lt hx hy
      obtain ⟨k, hkk⟩ : ∃ k, k = y * W + x := ⟨_, rfl⟩
      rw [← hkk] at hc hk
      have ek : (y : Int) * (W : Int) + (x : Int) = (k : Int) := by rw [hkk]; simp
      have hkl : (k : Int) < (W : Int) * (H : Int) := by have := Int.natCast_mul W H; omega
      have hq : (0 : Int) ≤ (y : Int) * (W : Int) ∧ (y : Int) * (W : Int) ≤ 16000000 := by
        have h5 := Int.natCast_mul y W
        have h6 := Nat.mul_le_mul (show y ≤ 4000 by omega) hW
        omega
      have hlt : ad.block < w.heap.size := by have := World.block_lt_of_cell? w _ hc; rwa [block_of_add] at this
      have hc' : ∀ o, (w.alloc o).cell? (ad.add k) = some (.bool (pix bs W x y)) := fun o => ((Bl.refl w).alloc o).at hc
      have Ha := Lib.hid ha; have Hkk := Lib.hid hkk
      clear ha hkk hr
      go_enter Tryz.func117, Tryz.ntmps117
      go_wp2_with (go_at_call 24; refine (in_any _ _ _ _).mono ?_; rintro e w' ⟨rfl, rfl⟩)
      go_ret
      exact ⟨ret_bool Ha.out.symm, (Bl.refl _).alloc _⟩

end Go.Proofs.YtjelhdpcaileiaaGreatDoor


/-! A page and an error: both outcomes under one roof; pages as grids. -/
namespace Go.Proofs.YtjelhdpcaileiaaGreatDoor
open Go.RowKit

/-- The page that a function answers with its error: made anew, or empty. -/
def Res (B : Nat) (w : World) (err : Int) (W H : Nat) (cells : List Value) (a b : Int) (R : Option Addr) (m c : Nat) : Prop :=
  (err = 0 → NPage B w (.agg #[.int .i64 a, .int .i64 b, .slice R m c]) W H cells) ∧ (err ≠ 0 → a = 0 ∧ b = 0 ∧ R = none ∧ m = 0 ∧ c = 0)
theorem Res.bl {B : Nat} {w w' : World} {err : Int} {W H : Nat} {cells : List Value} {a b : Int} {R : Option Addr} {m c : Nat} (h : Res B w err W H cells a b R m c) (hb : Bl w w') : Res B w' err W H cells a b R m c :=
  ⟨fun e => (h.1 e).bl hb, h.2⟩
theorem Res.mono {B B' : Nat} {w : World} {err : Int} {W H : Nat} {cells : List Value} {a b : Int} {R : Option Addr} {m c : Nat} (h : Res B w err W H cells a b R m c) (hb : B' ≤ B) : Res B' w err W H cells a b R m c :=
  ⟨fun e => (h.1 e).mono hb, h.2⟩
theorem Res.zero (B : Nat) (w : World) {err : Int} (W H : Nat) (cells : List Value) (h : err ≠ 0) : Res B w err W H cells 0 0 none 0 0 :=
  ⟨fun e => absurd e h, fun _ => ⟨rfl, rfl, rfl, rfl, rfl⟩⟩
theorem Res.page {B : Nat} {w : World} {err : Int} {W H c : Nat} {R : Option Addr} {cells : List Value} (h : err = 0) (hr : Reads w 1 R (W * H) cells) (hn : ∀ ad, R = some ad → B ≤ ad.block) : Res B w err W H cells W H R (W * H) c :=
  ⟨fun _ => ⟨R, c, rfl, hr, hn⟩, fun e => absurd h e⟩

theorem MakesPage.bl {P : Program} {k : FuncId} {cap : Array Value} {w w' : World} {W H : Nat} {cells : List Value} (h : MakesPage P k cap w W H cells) (hb : Bl w w') : MakesPage P k cap w' W H cells :=
  ⟨h.1, fun wx hx => h.2 wx (hb.trans hx)⟩

/-! ### grids -/
theorem grid_get {α : Type} (W H : Nat) (f : Nat → Nat → α) (x y : Nat) (hx : x < W) (hy : y < H) : (grid W H f)[y * W + x]? = some (f x y) := by
  rw [grid_at _ _ _ _ (place_lt hx hy), Nat.mul_comm, Nat.mul_add_mod, Nat.mod_eq_of_lt hx, Nat.mul_add_div (by omega), Nat.div_eq_of_lt hx, Nat.add_zero]
theorem pix_grid (W H : Nat) (f : Nat → Nat → Bool) (x y : Nat) (hx : x < W) (hy : y < H) : pix (grid W H f) W x y = f x y := by
  unfold pix
  simp [List.getD, grid_get W H f x y hx hy]
def vix (zs : List Int) (W x y : Nat) : Int := valOf zs (y * W + x)
theorem vix_grid (W H : Nat) (f : Nat → Nat → Int) (x y : Nat) (hx : x < W) (hy : y < H) : vix (grid W H f) W x y = f x y := by
  unfold vix valOf
  simp [List.getD, grid_get W H f x y hx hy]
theorem grid_pix (W H : Nat) (bs : List Bool) (h : bs.length = W * H) : grid W H (pix bs W) = bs := by
  apply List.ext_getElem?
  intro i
  rcases Nat.lt_or_ge i (W * H) with hi | hi
  · rw [grid_at W H _ i hi]
    have e : i / W * W + i % W = i := by rw [Nat.mul_comm]; exact Nat.div_add_mod i W
    unfold pix
    rw [e, List.getD_eq_getElem?_getD, List.getElem?_eq_getElem (by omega)]
    rfl
  · rw [List.getElem?_eq_none (by rw [grid_length]; exact hi), List.getElem?_eq_none (by omega)]
theorem grid_vix (W H : Nat) (zs : List Int) (h : zs.length = W * H) : grid W H (vix zs W) = zs := by
  apply List.ext_getElem?
  intro i
  rcases Nat.lt_or_ge i (W * H) with hi | hi
  · rw [grid_at W H _ i hi]
    have e : i / W * W + i % W = i := by rw [Nat.mul_comm]; exact Nat.div_add_mod i W
    unfold vix valOf
    rw [e, List.getD_eq_getElem?_getD, List.getElem?_eq_getElem (by omega)]
    rfl
  · rw [List.getElem?_eq_none (by rw [grid_length]; exact hi), List.getElem?_eq_none (by omega)]

theorem Reads.vplace {w : World} {A : Option Addr} {W H : Nat} {zs : List Int} (h : Reads w 1 A (W * H) (zs.map (.int .u8))) {x y : Nat} (hx : x < W) (hy : y < H) :
    ∃ ad, A = some ad ∧ w.cell? (ad.add (y * W + x)) = some (.int .u8 (vix zs W x y)) := by
  have hk := place_lt hx hy
  obtain ⟨ad, u, e, hu, hc⟩ := h.at_ hk
  refine ⟨ad, e, ?_⟩
  have hl : y * W + x < zs.length := by have := h.1; simp at this; omega
  have hu' : u = .int .u8 (vix zs W x y) := by simpa [vix, valOf, List.getD, hl] using hu.symm
  rw [hc, hu']

/-! ### turned by quarters -/
def tW (k W H : Nat) : Nat := if k = 1 ∨ k = 3 then H else W
def tH (k W H : Nat) : Nat := if k = 1 ∨ k = 3 then W else H
def tF {α : Type} (f : Nat → Nat → α) (k W H x y : Nat) : α :=
  if k = 1 then f y (H - 1 - x) else if k = 2 then f (W - 1 - x) (H - 1 - y) else if k = 3 then f (W - 1 - y) x else f x y
theorem tF_succ {α : Type} (f : Nat → Nat → α) (k W H x y : Nat) (hk : k < 3) (hx : x < tW (k + 1) W H) (hy : y < tH (k + 1) W H) : tF f k W H y (tH k W H - 1 - x) = tF f (k + 1) W H x y := by
  have : k = 0 ∨ k = 1 ∨ k = 2 := by omega
  rcases this with rfl | rfl | rfl
  · simp [tF, tH]
  · simp [tF, tH]
  · simp [tW, tH] at hx hy
    simp only [tF, tH]
    simp
    rw [show H - 1 - (H - 1 - x) = x by omega]
theorem t_size (k W H : Nat) : tW k W H * tH k W H = W * H := by
  unfold tW tH
  split <;> simp [Nat.mul_comm]
theorem tW_succ (k W H : Nat) (hk : k < 3) : tW (k + 1) W H = tH k W H ∧ tH (k + 1) W H = tW k W H := by
  have : k = 0 ∨ k = 1 ∨ k = 2 := by omega
  rcases this with rfl | rfl | rfl <;> simp [tW, tH]
theorem t_in (k W H x y : Nat) (hx : x < tW k W H) (hy : y < tH k W H) : tF (fun x y => y * W + x) k W H x y < W * H := by
  unfold tW at hx
  unfold tH at hy
  unfold tF
  split
  · rename_i h
    rw [if_pos (Or.inl h)] at hx hy
    exact place_lt (W := W) (H := H) (x := y) (y := H - 1 - x) hy (by omega)
  · split
    · rename_i h1 h
      subst h
      simp at hx hy
      exact place_lt (W := W) (H := H) (x := W - 1 - x) (y := H - 1 - y) (by omega) (by omega)
    · split
      · rename_i h1 h2 h
        subst h
        simp at hx hy
        exact place_lt (W := W) (H := H) (x := W - 1 - y) (y := x) (by omega) hx
      · rename_i h1 h2 h3
        rw [if_neg (by omega)] at hx hy
        exact place_lt hx hy
def quarter (q : Int) : Nat := (q % 4).toNat
theorem quarter_lt (q : Int) : quarter q < 4 := by unfold quarter; omega

theorem Res.store {B : Nat} {w : World} {err : Int} {W H : Nat} {cells : List Value} {a b : Int} {R : Option Addr} {m c : Nat} (h : Res B w err W H cells a b R m c) {p : Addr} (hp : p.block < B) (u : Value) : Res B (w.setCell p u) err W H cells a b R m c :=
  ⟨fun e => (h.1 e).store hp u, h.2⟩

end Go.Proofs.YtjelhdpcaileiaaGreatDoor


/-! Sums of numbers, tables of numbers in memory. -/
namespace Go.Proofs.YtjelhdpcaileiaaGreatDoor
open Go.RowKit

/-! ### sums -/
def sumN (f : Nat → Nat) : Nat → Nat
  | 0 => 0
  | n + 1 => sumN f n + f n
theorem sumN_congr {f g : Nat → Nat} : ∀ {n : Nat}, (∀ i, i < n → f i = g i) → sumN f n = sumN g n
  | 0, _ => rfl
  | n + 1, h => by
    unfold sumN
    rw [sumN_congr (n := n) (fun i hi => h i (by omega)), h n (by omega)]
theorem sumN_zero (n : Nat) : sumN (fun _ => 0) n = 0 := by
  induction n with
  | zero => rfl
  | succ n ih => simp [sumN, ih]
theorem sumN_add (f g : Nat → Nat) (n : Nat) : sumN (fun i => f i + g i) n = sumN f n + sumN g n := by
  induction n with
  | zero => rfl
  | succ n ih => simp only [sumN, ih]; omega
theorem sumN_split (f : Nat → Nat) (m n : Nat) : sumN f (m + n) = sumN f m + sumN (fun i => f (m + i)) n := by
  induction n with
  | zero => rfl
  | succ n ih => rw [← Nat.add_assoc]; simp only [sumN, ih]; omega
theorem sumN_swap (f : Nat → Nat → Nat) (W H : Nat) : sumN (fun x => sumN (fun y => f x y) H) W = sumN (fun y => sumN (fun x => f x y) W) H := by
  induction W with
  | zero => simp [sumN, sumN_zero]
  | succ W ih => simp only [sumN, ih, sumN_add]
theorem sumN_flat (g : Nat → Nat) (W H : Nat) : sumN g (H * W) = sumN (fun y => sumN (fun x => g (y * W + x)) W) H := by
  induction H with
  | zero => simp [sumN]
  | succ H ih => rw [Nat.add_mul, Nat.one_mul, sumN_split, ih]; rfl
theorem sumN_le {f : Nat → Nat} {c : Nat} (h : ∀ i, f i ≤ c) (n : Nat) : sumN f n ≤ n * c := by
  induction n with
  | zero => simp [sumN]
  | succ n ih => have := h n; simp only [sumN, Nat.add_mul]; omega
theorem sumN_mono {f g : Nat → Nat} (h : ∀ i, f i ≤ g i) (n : Nat) : sumN f n ≤ sumN g n := by
  induction n with
  | zero => exact Nat.le_refl _
  | succ n ih => have := h n; simp only [sumN]; omega
/-- Places by rows, or by columns. -/
theorem sumN_cols (g : Nat → Nat) (W H : Nat) : sumN (fun x => sumN (fun y => g (y * W + x)) H) W = sumN g (W * H) := by
  rw [Nat.mul_comm, sumN_flat, sumN_swap]

/-! ### a table of numbers in memory -/
def tabI (N : Nat) (f : Nat → Int) : Array Value := ((List.range N).map fun k => Value.int .i64 (f k)).toArray
theorem tabI_size (N : Nat) (f : Nat → Int) : (tabI N f).size = N := by simp [tabI]
theorem tabI_get {N : Nat} (f : Nat → Int) {k : Nat} (h : k < N) : (tabI N f)[k]? = some (.int .i64 (f k)) := by simp [tabI, h]
theorem tabI_congr {N : Nat} {f g : Nat → Int} (h : ∀ k, k < N → f k = g k) : tabI N f = tabI N g := by
  unfold tabI
  congr 1
  exact List.map_congr_left fun k hk => by rw [h k (List.mem_range.1 hk)]
theorem tabI_set {N : Nat} {f g : Nat → Int} {a : Nat} {v : Int} (hg : ∀ k, k < N → g k = if k = a then v else f k) : (tabI N f).setIfInBounds a (.int .i64 v) = tabI N g := by
  apply Array.ext_getElem?
  intro i
  rcases Nat.lt_or_ge i N with h | h
  · rw [tabI_get g h, hg i h]
    by_cases e : a = i
    · subst e
      simp [tabI, h]
    · rw [Array.getElem?_setIfInBounds_ne e, tabI_get f h, if_neg (fun e' => e e'.symm)]
  · rw [Array.getElem?_eq_none (by simp [tabI_size]; exact h), Array.getElem?_eq_none (by rw [tabI_size]; exact h)]
theorem tabI_made (N : Nat) : madeCells #[.int .i64 0] N = tabI N (fun _ => 0) := by
  apply Array.ext_getElem?
  intro i
  rcases Nat.lt_or_ge i N with h | h
  · rw [tabI_get _ h]; simp [madeCells, h, Nat.mod_one]
  · rw [Array.getElem?_eq_none (by rw [size_madeCells]; exact h), Array.getElem?_eq_none (by rw [tabI_size]; exact h)]
def tabL (N : Nat) (f : Nat → Int) : List Int := (List.range N).map f
theorem tabL_len (N : Nat) (f : Nat → Int) : (tabL N f).length = N := by simp [tabL]
theorem tabL_get {N : Nat} (f : Nat → Int) {k : Nat} (h : k < N) : (tabL N f)[k]? = some (f k) := by simp [tabL, h]
theorem tabL_congr {N : Nat} {f g : Nat → Int} (h : ∀ k, k < N → f k = g k) : tabL N f = tabL N g :=
  List.map_congr_left fun k hk => h k (List.mem_range.1 hk)
theorem Blk.tabReads {w : World} {g : Nat} {t : TypeId} {N : Nat} {f : Nat → Int} (h : Blk w g t (tabI N f)) : Reads w 1 (some ⟨g, 0, none⟩) N ((tabL N f).map (.int .i64)) := by
  have := h.reads N 1 (by rw [tabI_size]; omega)
  have e : (tabI N f).toList = (tabL N f).map (.int .i64) := by simp [tabI, tabL, Function.comp_def]
  rwa [e] at this
theorem Blk.tabAt {w : World} {g : Nat} {t : TypeId} {N : Nat} {f : Nat → Int} (h : Blk w g t (tabI N f)) {k : Nat} (hk : k < N) : w.cell? ⟨g, k, none⟩ = some (.int .i64 (f k)) := (h.cell k).trans (tabI_get f hk)
theorem Blk.tabSet {w : World} {g : Nat} {t : TypeId} {N : Nat} {f f' : Nat → Int} (h : Blk w g t (tabI N f)) (a : Nat) (v : Int) (hg : ∀ k, k < N → f' k = if k = a then v else f k) : Blk (w.setCell ⟨g, a, none⟩ (.int .i64 v)) g t (tabI N f') := by
  have := h.set_ a (.int .i64 v)
  rwa [tabI_set hg] at this
theorem Reads.intAt {w : World} {A : Option Addr} {n k : Nat} {f : Nat → Int} (h : Reads w 1 A n ((tabL n f).map (.int .i64))) (hk : k < n) : ∃ ad, A = some ad ∧ w.cell? (ad.add k) = some (.int .i64 (f k)) := by
  obtain ⟨ad, u, e, hu, hc⟩ := h.at_ hk
  refine ⟨ad, e, ?_⟩
  rw [hc, ← hu]
  simp [tabL, hk]
end Go.Proofs.YtjelhdpcaileiaaGreatDoor


/-! The plain law of leaning and of profiles. -/
namespace Go.Proofs.YtjelhdpcaileiaaGreatDoor
open Go.RowKit

/-! ### a number that leans -/
def shiftI (n : Int) : Int := if n < 0 then -roundI (-n) 1024 else roundI n 1024
theorem shiftI_bd {n : Int} (h : -2000000 ≤ n ∧ n ≤ 2000000) : -2000 ≤ shiftI n ∧ shiftI n ≤ 2000 := by
  unfold shiftI roundI
  split <;> omega
def leanI (W : Nat) (n : Int) (x : Nat) : Int := shiftI (n * ((x : Int) - ((W : Int) - 1) / 2))
theorem leanArg_bd {W : Nat} {n : Int} {x : Nat} (hW : W ≤ 4000) (hn : -256 ≤ n ∧ n ≤ 256) (hx : x < W) : -2000000 ≤ n * ((x : Int) - ((W : Int) - 1) / 2) ∧ n * ((x : Int) - ((W : Int) - 1) / 2) ≤ 2000000 := by
  obtain ⟨d, hd⟩ : ∃ d, d = (x : Int) - ((W : Int) - 1) / 2 := ⟨_, rfl⟩
  rw [← hd]
  have h1 : -4000 ≤ d ∧ d ≤ 4000 := by omega
  have h2 : (n * d).natAbs ≤ 256 * 4000 := by
    rw [Int.natAbs_mul]
    exact Nat.mul_le_mul (by omega) (by omega)
  omega
theorem leanI_bd {W : Nat} {n : Int} {x : Nat} (hW : W ≤ 4000) (hn : -256 ≤ n ∧ n ≤ 256) (hx : x < W) : -2000 ≤ leanI W n x ∧ leanI W n x ≤ 2000 :=
  shiftI_bd (leanArg_bd hW hn hx)

/-! ### places of ink -/
def spotL (bs : List Bool) : Nat → List Nat
  | 0 => []
  | m + 1 => spotL bs m ++ (if bs.getD m false then [m] else [])
theorem spotL_lt (bs : List Bool) : ∀ (m : Nat) (i : Nat), i ∈ spotL bs m → i < m
  | 0, i, h => by simp [spotL] at h
  | m + 1, i, h => by
    simp only [spotL, List.mem_append] at h
    rcases h with h | h
    · have := spotL_lt bs m i h; omega
    · split at h <;> simp at h; omega
theorem spotL_len (bs : List Bool) (m : Nat) : (spotL bs m).length ≤ m := by
  induction m with
  | zero => simp [spotL]
  | succ m ih => simp only [spotL, List.length_append]; split <;> simp <;> omega
def b1 (b : Bool) : Nat := if b then 1 else 0
theorem spotL_count (bs : List Bool) (p : Nat → Bool) (m : Nat) : (spotL bs m).countP p = sumN (fun i => b1 (bs.getD i false && p i)) m := by
  induction m with
  | zero => rfl
  | succ m ih =>
    simp only [spotL, List.countP_append, ih, sumN]
    cases bs.getD m false <;> cases hp : p m <;> simp [b1, hp]

/-- The place in the profile. -/
def profAt (W H : Nat) (n : Int) (i : Nat) : Int := ((H / 2 : Nat) : Int) + ((i / W : Nat) : Int) + leanI W n (i % W)
def profK (W H : Nat) (n : Int) (k i : Nat) : Bool := decide (profAt W H n i = (k : Int))
/-- How much ink row k of the profile has. -/
def profN (bs : List Bool) (W H : Nat) (n : Int) (k : Nat) : Nat := sumN (fun i => b1 (bs.getD i false && profK W H n k i)) (W * H)
/-- .. as far as columns and rows are seen. -/
def profC (bs : List Bool) (W H : Nat) (n : Int) (x y : Nat) (k : Nat) : Nat :=
  sumN (fun x' => sumN (fun y' => b1 (bs.getD (y' * W + x') false && profK W H n k (y' * W + x'))) H) x + sumN (fun y' => b1 (bs.getD (y' * W + x) false && profK W H n k (y' * W + x))) y
theorem profC_start (bs : List Bool) (W H : Nat) (n : Int) (k : Nat) : profC bs W H n 0 0 k = 0 := rfl
theorem profC_col (bs : List Bool) (W H : Nat) (n : Int) (x k : Nat) : profC bs W H n x H k = profC bs W H n (x + 1) 0 k := rfl
theorem profC_end (bs : List Bool) (W H : Nat) (n : Int) (k : Nat) : profC bs W H n W 0 k = profN bs W H n k := by
  unfold profC profN
  rw [sumN_cols (fun i => b1 (bs.getD i false && profK W H n k i))]
  rfl
theorem profC_step (bs : List Bool) (W H : Nat) (n : Int) (x y k : Nat) : profC bs W H n x (y + 1) k = profC bs W H n x y k + b1 (bs.getD (y * W + x) false && profK W H n k (y * W + x)) := by
  unfold profC; simp only [sumN]; omega
theorem profN_le (bs : List Bool) (W H : Nat) (n : Int) (k : Nat) : profN bs W H n k ≤ W * H := by
  have := sumN_le (f := fun i => b1 (bs.getD i false && profK W H n k i)) (c := 1) (fun i => by unfold b1; split <;> omega) (W * H)
  simpa [profN] using this
def sqI (l : List Int) : Int := (l.map fun n => n * n).sum
end Go.Proofs.YtjelhdpcaileiaaGreatDoor


/-! The plain law of ink that is moved place by place. -/
namespace Go.Proofs.YtjelhdpcaileiaaGreatDoor
open Go.RowKit

/-! ### a table of bools in memory -/
def tabB (N : Nat) (f : Nat → Bool) : Array Value := ((List.range N).map fun k => Value.bool (f k)).toArray
theorem tabB_size (N : Nat) (f : Nat → Bool) : (tabB N f).size = N := by simp [tabB]
theorem tabB_get {N : Nat} (f : Nat → Bool) {k : Nat} (h : k < N) : (tabB N f)[k]? = some (.bool (f k)) := by simp [tabB, h]
theorem tabB_congr {N : Nat} {f g : Nat → Bool} (h : ∀ k, k < N → f k = g k) : tabB N f = tabB N g := by
  unfold tabB
  congr 1
  exact List.map_congr_left fun k hk => by rw [h k (List.mem_range.1 hk)]
theorem tabB_set {N : Nat} {f g : Nat → Bool} {a : Nat} {v : Bool} (hg : ∀ k, k < N → g k = if k = a then v else f k) : (tabB N f).setIfInBounds a (.bool v) = tabB N g := by
  apply Array.ext_getElem?
  intro i
  rcases Nat.lt_or_ge i N with h | h
  · rw [tabB_get g h, hg i h]
    by_cases e : a = i
    · subst e
      simp [tabB, h]
    · rw [Array.getElem?_setIfInBounds_ne e, tabB_get f h, if_neg (fun e' => e e'.symm)]
  · rw [Array.getElem?_eq_none (by simp [tabB_size]; exact h), Array.getElem?_eq_none (by rw [tabB_size]; exact h)]
theorem tabB_made (N : Nat) : madeCells #[.bool false] N = tabB N (fun _ => false) := by
  apply Array.ext_getElem?
  intro i
  rcases Nat.lt_or_ge i N with h | h
  · rw [tabB_get _ h]; simp [madeCells, h, Nat.mod_one]
  · rw [Array.getElem?_eq_none (by rw [size_madeCells]; exact h), Array.getElem?_eq_none (by rw [tabB_size]; exact h)]
theorem Blk.tabReadsB {w : World} {g : Nat} {t : TypeId} {N : Nat} {f : Nat → Bool} (h : Blk w g t (tabB N f)) : Reads w 1 (some ⟨g, 0, none⟩) N (((List.range N).map f).map .bool) := by
  have := h.reads N 1 (by rw [tabB_size]; omega)
  have e : (tabB N f).toList = ((List.range N).map f).map .bool := by simp [tabB, Function.comp_def]
  rwa [e] at this
theorem Blk.tabAtB {w : World} {g : Nat} {t : TypeId} {N : Nat} {f : Nat → Bool} (h : Blk w g t (tabB N f)) {k : Nat} (hk : k < N) : w.cell? ⟨g, k, none⟩ = some (.bool (f k)) := (h.cell k).trans (tabB_get f hk)
theorem Blk.tabSetB {w : World} {g : Nat} {t : TypeId} {N : Nat} {f f' : Nat → Bool} (h : Blk w g t (tabB N f)) (a : Nat) (v : Bool) (hg : ∀ k, k < N → f' k = if k = a then v else f k) : Blk (w.setCell ⟨g, a, none⟩ (.bool v)) g t (tabB N f') := by
  have := h.set_ a (.bool v)
  rwa [tabB_set hg] at this

/-! ### moving -/
theorem atI_ways' (cs : List Bool) (W H : Nat) (x y : Int) : atI cs W H x y = false ∨ ∃ X Y : Nat, x = (X : Int) ∧ y = (Y : Int) ∧ X < W ∧ Y < H ∧ atI cs W H x y = pix cs W X Y := by
  by_cases c : 0 ≤ x ∧ x < W ∧ 0 ≤ y ∧ y < H
  · obtain ⟨c1, c2, c3, c4⟩ := c
    obtain ⟨X, rfl⟩ := Int.eq_ofNat_of_zero_le c1
    obtain ⟨Y, rfl⟩ := Int.eq_ofNat_of_zero_le c3
    exact Or.inr ⟨X, Y, rfl, rfl, by omega, by omega, atI_in cs W H X Y (by omega) (by omega)⟩
  · exact Or.inl (atI_out cs W H x y c)
def hitTo (bs : List Bool) (W : Nat) (T : Nat → Nat → Int × Int) : Nat → Nat → Bool
  | 0, _ => false
  | m + 1, k => hitTo bs W T m k || (bs.getD m false && decide (T (m % W) (m / W) = (((k % W : Nat) : Int), ((k / W : Nat) : Int))))
theorem hitTo_iff (bs : List Bool) (W : Nat) (T : Nat → Nat → Int × Int) (k : Nat) : ∀ m, hitTo bs W T m k = true ↔ ∃ i, i < m ∧ bs.getD i false = true ∧ T (i % W) (i / W) = (((k % W : Nat) : Int), ((k / W : Nat) : Int))
  | 0 => by simp [hitTo]
  | m + 1 => by
    simp only [hitTo, Bool.or_eq_true, hitTo_iff bs W T k m, Bool.and_eq_true, decide_eq_true_eq]
    constructor
    · rintro (⟨i, h1, h2⟩ | h)
      · exact ⟨i, by omega, h2⟩
      · exact ⟨m, by omega, h⟩
    · rintro ⟨i, h1, h2⟩
      rcases Nat.lt_or_ge i m with h | h
      · exact Or.inl ⟨i, h, h2⟩
      · obtain rfl : i = m := by omega
        exact Or.inr h2
theorem hitTo_no {bs : List Bool} {W m : Nat} {T : Nat → Nat → Int × Int} (h : bs.getD m false = false) (k : Nat) : hitTo bs W T (m + 1) k = hitTo bs W T m k := by
  simp only [hitTo, h, Bool.false_and, Bool.or_false]
theorem place_parts {W H k : Nat} (hk : k < W * H) : k % W < W ∧ k / W < H ∧ (k / W) * W + k % W = k := by
  have hW : 0 < W := by rcases Nat.eq_zero_or_pos W with h0 | h0; (subst h0; simp at hk); exact h0
  exact ⟨Nat.mod_lt _ hW, Nat.div_lt_of_lt_mul hk, by have := Nat.div_add_mod k W; rw [Nat.mul_comm] at this; exact this⟩
theorem at_parts {W x : Nat} (y : Nat) (hx : x < W) : (y * W + x) % W = x ∧ (y * W + x) / W = y :=
  ⟨by rw [Nat.mul_comm, Nat.mul_add_mod, Nat.mod_eq_of_lt hx], by rw [Nat.mul_comm, Nat.mul_add_div (by omega), Nat.div_eq_of_lt hx, Nat.add_zero]⟩
theorem hitTo_out {bs : List Bool} {W H m : Nat} {T : Nat → Nat → Int × Int} {x y : Int} (hT : T (m % W) (m / W) = (x, y)) (ho : x < 0 ∨ (W : Int) ≤ x ∨ y < 0 ∨ (H : Int) ≤ y) (k : Nat) (hk : k < W * H) : hitTo bs W T (m + 1) k = hitTo bs W T m k := by
  obtain ⟨h1, h2, _⟩ := place_parts hk
  have : ¬ ((x, y) = (((k % W : Nat) : Int), ((k / W : Nat) : Int))) := by
    rw [Prod.mk.injEq]
    generalize k % W = a at h1 ⊢
    generalize k / W = b at h2 ⊢
    omega
  simp only [hitTo, hT, decide_eq_false this, Bool.and_false, Bool.or_false]
theorem hitTo_in {bs : List Bool} {W H m X Y : Nat} {T : Nat → Nat → Int × Int} (h : bs.getD m false = true) (hT : T (m % W) (m / W) = ((X : Int), (Y : Int))) (hX : X < W) (k : Nat) (hk : k < W * H) :
    hitTo bs W T (m + 1) k = if k = Y * W + X then true else hitTo bs W T m k := by
  obtain ⟨h1, h2, h3⟩ := place_parts hk
  obtain ⟨p1, p2⟩ := at_parts Y hX
  simp only [hitTo, hT, h, Bool.true_and]
  by_cases e : k = Y * W + X
  · rw [if_pos e, e, p1, p2]; simp
  · rw [if_neg e]
    have : ¬ (((X : Int), (Y : Int)) = (((k % W : Nat) : Int), ((k / W : Nat) : Int))) := by
      rw [Prod.mk.injEq]
      rintro ⟨a, b⟩
      have a' : X = k % W := by omega
      have b' : Y = k / W := by omega
      rw [a', b', h3] at e
      exact e rfl
    rw [decide_eq_false this, Bool.or_false]
/-- Columns that go down. -/
theorem hit_lean (bs : List Bool) (W H : Nat) (s : Nat → Int) (k : Nat) (hk : k < W * H) :
    hitTo bs W (fun x y => ((x : Int), (y : Int) + s x)) (W * H) k = atI bs W H ((k % W : Nat) : Int) (((k / W : Nat) : Int) - s (k % W)) := by
  obtain ⟨h1, h2, h3⟩ := place_parts hk
  rw [Bool.eq_iff_iff, hitTo_iff]
  constructor
  · rintro ⟨i, hi, hb, hT⟩
    obtain ⟨i1, i2, i3⟩ := place_parts hi
    rw [Prod.mk.injEq] at hT
    have e1 : i % W = k % W := by omega
    rw [e1] at hT
    have e2 : ((k / W : Nat) : Int) - s (k % W) = ((i / W : Nat) : Int) := by omega
    rw [e2, atI_in bs W H _ _ h1 i2]
    unfold pix
    rw [← e1, i3]
    exact hb
  · intro h
    rcases atI_ways' bs W H ((k % W : Nat) : Int) (((k / W : Nat) : Int) - s (k % W)) with e | ⟨X, Y, eX, eY, hX, hY, e⟩
    · rw [e] at h; cases h
    · rw [e] at h
      obtain ⟨p1, p2⟩ := at_parts Y hX
      refine ⟨Y * W + X, place_lt hX hY, h, ?_⟩
      rw [p1, p2]
      have : X = k % W := by omega
      rw [Prod.mk.injEq, this]
      exact ⟨rfl, by omega⟩
/-- Rows that go to the right. -/
theorem hit_slant (bs : List Bool) (W H : Nat) (s : Nat → Int) (k : Nat) (hk : k < W * H) :
    hitTo bs W (fun x y => ((x : Int) + s y, (y : Int))) (W * H) k = atI bs W H (((k % W : Nat) : Int) - s (k / W)) ((k / W : Nat) : Int) := by
  obtain ⟨h1, h2, h3⟩ := place_parts hk
  rw [Bool.eq_iff_iff, hitTo_iff]
  constructor
  · rintro ⟨i, hi, hb, hT⟩
    obtain ⟨i1, i2, i3⟩ := place_parts hi
    rw [Prod.mk.injEq] at hT
    have e1 : i / W = k / W := by omega
    rw [e1] at hT
    have e2 : ((k % W : Nat) : Int) - s (k / W) = ((i % W : Nat) : Int) := by omega
    rw [e2, atI_in bs W H _ _ i1 h2]
    unfold pix
    rw [← e1, i3]
    exact hb
  · intro h
    rcases atI_ways' bs W H (((k % W : Nat) : Int) - s (k / W)) ((k / W : Nat) : Int) with e | ⟨X, Y, eX, eY, hX, hY, e⟩
    · rw [e] at h; cases h
    · rw [e] at h
      obtain ⟨p1, p2⟩ := at_parts Y hX
      refine ⟨Y * W + X, place_lt hX hY, h, ?_⟩
      rw [p1, p2]
      have : Y = k / W := by omega
      rw [Prod.mk.injEq, this]
      exact ⟨by omega, rfl⟩

end Go.Proofs.YtjelhdpcaileiaaGreatDoor
