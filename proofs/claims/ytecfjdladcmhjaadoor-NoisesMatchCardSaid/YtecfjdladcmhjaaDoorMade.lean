/- Pages that are made by a function of places: in the program (a slice of the full length, written place by place) and in the reference (appended to). -/
import Derived.Test.YtecfjdladcmhjaaDoorSums
import Derived.Test.YtecfjdladcmhjaaDoorOwn
namespace Go.Proofs.YtecfjdladcmhjaaDoor
open Go.RowKit

/-! ### plain -/
def grid {α : Type} (W H : Nat) (f : Nat → Nat → α) : List α := (List.range (W * H)).map fun i => f (i % W) (i / W)
theorem grid_length {α : Type} (W H : Nat) (f : Nat → Nat → α) : (grid W H f).length = W * H := by simp [grid]
theorem grid_at {α : Type} (W H : Nat) (f : Nat → Nat → α) (i : Nat) (h : i < W * H) : (grid W H f)[i]? = some (f (i % W) (i / W)) := by simp [grid, h]
theorem grid_congr {α : Type} (W H : Nat) (f g : Nat → Nat → α) (h : ∀ x y, x < W → y < H → f x y = g x y) : grid W H f = grid W H g := by
  unfold grid
  apply List.map_congr_left
  intro i hi
  have hi' : i < W * H := by simpa using hi
  have hW : 0 < W := by rcases Nat.eq_zero_or_pos W with h0 | h0; (subst h0; simp at hi'); exact h0
  exact h _ _ (Nat.mod_lt _ hW) (Nat.div_lt_of_lt_mul hi')
/-- The first m places of a page, row by row. -/
def gridTo {α : Type} (W : Nat) (f : Nat → Nat → α) (m : Nat) : List α := (List.range m).map fun i => f (i % W) (i / W)
theorem gridTo_succ {α : Type} (W : Nat) (f : Nat → Nat → α) (con : α → Value) (y x : Nat) (hx : x < W) : (gridTo W f (y * W + x + 1)).map con = (gridTo W f (y * W + x)).map con ++ [con (f x y)] := by
  have ex : (y * W + x) % W = x := by rw [Nat.mul_comm, Nat.mul_add_mod, Nat.mod_eq_of_lt hx]
  have ey : (y * W + x) / W = y := by rw [Nat.mul_comm, Nat.mul_add_div (by omega), Nat.div_eq_of_lt hx, Nat.add_zero]
  simp [gridTo, List.range_succ, ex, ey]

/-- A page with its cells. -/
def IsPage (w : World) (v : Value) (W H : Nat) (cells : List Value) : Prop := ∃ A c, v = .agg #[.int .i64 W, .int .i64 H, .slice A (W * H) c] ∧ Reads w 1 A (W * H) cells
theorem IsPage.bl {w w' : World} {v : Value} {W H : Nat} {cells : List Value} (h : IsPage w v W H cells) (hb : Bl w w') : IsPage w' v W H cells :=
  let ⟨A, c, e, hr⟩ := h
  ⟨A, c, e, hr.bl hb⟩

/-- A page in new memory: from block B on. -/
def NPage (B : Nat) (w : World) (v : Value) (W H : Nat) (cells : List Value) : Prop := ∃ A c, v = .agg #[.int .i64 W, .int .i64 H, .slice A (W * H) c] ∧ Reads w 1 A (W * H) cells ∧ ∀ ad, A = some ad → B ≤ ad.block
theorem NPage.is {B : Nat} {w : World} {v : Value} {W H : Nat} {cells : List Value} (h : NPage B w v W H cells) : IsPage w v W H cells :=
  let ⟨A, c, e, hr, _⟩ := h
  ⟨A, c, e, hr⟩
theorem NPage.bl {B : Nat} {w w' : World} {v : Value} {W H : Nat} {cells : List Value} (h : NPage B w v W H cells) (hb : Bl w w') : NPage B w' v W H cells :=
  let ⟨A, c, e, hr, hn⟩ := h
  ⟨A, c, e, hr.bl hb, hn⟩
theorem NPage.mono {B B' : Nat} {w : World} {v : Value} {W H : Nat} {cells : List Value} (h : NPage B w v W H cells) (hb : B' ≤ B) : NPage B' w v W H cells :=
  let ⟨A, c, e, hr, hn⟩ := h
  ⟨A, c, e, hr, fun ad h => Nat.le_trans hb (hn ad h)⟩
theorem Reads.store {B : Nat} {w : World} {size n : Nat} {A : Option Addr} {xs : List Value} (h : Reads w size A n xs) (hn : ∀ ad, A = some ad → B ≤ ad.block) {p : Addr} (hp : p.block < B) (u : Value) : Reads (w.setCell p u) size A n xs :=
  ⟨h.1, fun hk => by
    obtain ⟨ad, e, hc⟩ := h.2 hk
    exact ⟨ad, e, fun j x hx => by rw [World.cell?_setCell_other w p _ u (fun e' => by have h1 := hn ad e; have h2 := congrArg Addr.block e'; rw [block_of_add] at h2; omega)]; exact hc j x hx⟩⟩
theorem NPage.store {B : Nat} {w : World} {v : Value} {W H : Nat} {cells : List Value} (h : NPage B w v W H cells) {p : Addr} (hp : p.block < B) (u : Value) : NPage B (w.setCell p u) v W H cells :=
  let ⟨A, c, e, hr, hn⟩ := h
  ⟨A, c, e, hr.store hn hp u, hn⟩

/-- A function value that tells a place's value. -/
def Paints {α : Type} (P : Program) (k : FuncId) (cap : Array Value) (con : α → Value) (w : World) (W H : Nat) (f : Nat → Nat → α) : Prop :=
  (∀ args w, (callFunc k args).run P w = .ok (.enter k args) w) ∧
  ∀ wx (x y : Nat), Bl w wx → x < W → y < H → Calls P k (#[.int .i64 x, .int .i64 y] ++ cap) wx fun e w' => e = .returned (con (f x y)) ∧ Bl wx w'
theorem Paints.bl {α : Type} {P : Program} {k : FuncId} {cap : Array Value} {con : α → Value} {w w' : World} {W H : Nat} {f : Nat → Nat → α} (h : Paints P k cap con w W H f) (hb : Bl w w') : Paints P k cap con w' W H f :=
  ⟨h.1, fun wx x y hx => h.2 wx x y (hb.trans hx)⟩

theorem place_lt {W H x y : Nat} (hx : x < W) (hy : y < H) : y * W + x < W * H := by
  have m := mul_step (a := W) hy
  rw [Nat.mul_comm W H]; omega

/-! ### Bits -/
def madeInv (w : World) (W H : Nat) (f : Nat → Nat → Bool) (wr : World) (n : Nat) : Prop :=
  Bl w wr ∧ (∃ cs : Array Value, Blk wr (w.heap.size + 1) 4 cs ∧ cs.size = W * H ∧ ∀ i, i < n → cs[i]? = some (Value.bool (f (i % W) (i / W)))) ∧
    Blk wr (w.heap.size + 1 + 1) 24 #[.int .i64 W, .int .i64 H, .slice (some ⟨w.heap.size + 1, 0, none⟩) (W * H) (W * H)] ∧
    Blk wr w.heap.size 24 #[.int .i64 0, .int .i64 0, .slice none 0 0]

theorem madeInv.start (w : World) (W H : Nat) (f : Nat → Nat → Bool) : madeInv w W H f (((w.alloc (.cells #[.int .i64 0, .int .i64 0, .slice none 0 0] 24)).alloc (.cells (madeCells #[.bool false] (W * H)) 4)).alloc
    (.cells #[.int .i64 W, .int .i64 H, .slice (some ⟨w.heap.size + 1, 0, none⟩) (W * H) (W * H)] 24)) 0 := by
  have b0 := Blk.new w 24 #[.int .i64 0, .int .i64 0, .slice none 0 0]
  have b1 := Blk.new (w.alloc (.cells #[.int .i64 0, .int .i64 0, .slice none 0 0] 24)) 4 (madeCells #[.bool false] (W * H))
  have b2 := Blk.new ((w.alloc (.cells #[.int .i64 0, .int .i64 0, .slice none 0 0] 24)).alloc (.cells (madeCells #[.bool false] (W * H)) 4)) 24 #[.int .i64 W, .int .i64 H, .slice (some ⟨w.heap.size + 1, 0, none⟩) (W * H) (W * H)]
  simp only [World.size_alloc] at b1 b2
  exact ⟨(((Bl.refl w).alloc _).alloc _).alloc _, ⟨_, b1.alloc _, size_madeCells _ _, fun i hi => absurd hi (by omega)⟩, b2, (b0.alloc _).alloc _⟩

set_option maxRecDepth 100000 in
set_option maxHeartbeats 1000000 in
theorem made_any (W H : Nat) (f : Nat → Nat → Bool) (k : FuncId) (cap : Array Value) (w : World) (hW : W ≤ 1048576) (hH : H ≤ 1048576) (hWH : W * H ≤ 1048576) (hk : Paints Tryd.prog k cap Value.bool w W H f) :
    Calls Tryd.prog 99 #[.int .i64 W, .int .i64 H, .func (.func k) #[] cap] w fun e w' => ∃ v, e = .returned v ∧ NPage w.heap.size w' v W H ((grid W H f).map Value.bool) ∧ Bl w w' := by
  have hmk := run_make_row' (P := Tryd.prog) 22 4 (.bool false) 1 Tryd.underlying22 info_bool rfl .i64 .i64 (W * H) (by omega) (by omega)
  have hent := hk.1
  have eWH : (W : Int) * (H : Int) = ((W * H : Nat) : Int) := by simp
  have h1 : (0:Int) ≤ (W:Int) * (H:Int) := by omega
  have h2 : (W:Int) * (H:Int) ≤ 1048576 := by omega
  rw [← eWH] at hmk
  have EWH := Lib.hid eWH; clear eWH
  have inv0 := Lib.hid (madeInv.start w W H f)
  go_enter Tryd.func99, Tryd.ntmps99
  go_wp2_with fail
  go_loopw [18] (fun v wr => ∃ y : Nat, y ≤ H ∧ v = .int .i64 y ∧ madeInv w W H f wr (y * W)) (fun v _ => H - (intOf v).toNat)
  case atStart => exact ⟨0, Nat.zero_le _, rfl, by simpa using inv0.out⟩
  case round =>
    obtain ⟨y, hy, rfl, hinv⟩ := hrel
    by_cases hlt : y < H
    · go_wp2_with fail
      go_loopw [22] (fun v w2 => ∃ x : Nat, x ≤ W ∧ v = .int .i64 x ∧ madeInv w W H f w2 (y * W + x)) (fun v _ => W - (intOf v).toNat)
      case atStart => exact ⟨0, Nat.zero_le _, rfl, by simpa using hinv⟩
      case round =>
        obtain ⟨x, hx, rfl, hinv2⟩ := hrel
        by_cases hlt2 : x < W
        · obtain ⟨hbl, ⟨cs, hblk, hsz, hcs⟩, hb2, hb0⟩ := hinv2
          have ex : (y * W + x) % W = x := by rw [Nat.mul_comm, Nat.mul_add_mod, Nat.mod_eq_of_lt hlt2]
          have ey : (y * W + x) / W = y := by rw [Nat.mul_comm, Nat.mul_add_div (by omega), Nat.div_eq_of_lt hlt2, Nat.add_zero]
          have hilt := place_lt hlt2 hlt
          obtain ⟨i, hi⟩ : ∃ i, i = y * W + x := ⟨_, rfl⟩
          have e1 : (y : Int) * (W : Int) + (x : Int) = (i : Int) := by rw [hi]; simp
          rw [← hi] at hilt ex ey hcs
          have k2 := hb2.all3
          obtain ⟨vi, ci⟩ : ∃ v, wr.cell? ⟨w.heap.size + 1, i, none⟩ = some v := ⟨cs[i]'(by omega), by rw [hblk.cell]; simp⟩
          have fi := hblk.frozen i
          have hi2 : (i:Int) < (W:Int) * (H:Int) := by have := EWH.out; omega
          have h3 : (0:Int) ≤ (y:Int) * (W:Int) ∧ (y:Int) * (W:Int) ≤ 1048576 := by have := Int.natCast_mul y W; have := EWH.out; omega
          have Hi := Lib.hid hi; have Hcs := Lib.hid hcs; have Hex := Lib.hid ex; have Hey := Lib.hid ey
          clear hi hcs ex ey
          go_wp2_with fail
          refine wp_region_flow [(true, 0), (true, 1), (true, 2), (true, 3), (true, 4), (true, 5), (true, 6), (true, 7), (true, 8), (true, 9), (false, 10), (true, 11), (false, 12)] (fun i => i == 12) (by kernel_rfl) (by kernel_rfl) (by kernel_rfl) (by kernel_rfl) ?_
          iterate 1
            apply Flow.calm2 _ _ rfl rfl
            · intro w' hb' K' hK'
              obtain ⟨hc', hf'⟩ := hb'.rule
              go_simp
              try go_ints
              exact hK'
            · intro K' hK'
              simp only [Act.put, List.setIfInBounds_toArray, List.set_cons_zero, List.set_cons_succ]
              exact hK'
          iterate 1
            apply Flow.calm2 _ _ rfl rfl
            · intro w' hb' K' hK'
              obtain ⟨hc', hf'⟩ := hb'.rule
              go_simp
              try go_ints
              exact hK'
            · intro K' hK'
              simp only [Act.put, List.setIfInBounds_toArray, List.set_cons_zero, List.set_cons_succ]
              exact hK'
          iterate 2
            apply Flow.mv _ rfl
            · intro K' hK'
              simp only [Act.put, Act.eval, List.setIfInBounds_toArray, List.set_cons_zero, List.set_cons_succ, arr_getD, List.getD_cons_zero, List.getD_cons_succ]
              exact hK'
          iterate 1
            apply Flow.calm2 _ _ rfl rfl
            · intro w' hb' K' hK'
              obtain ⟨hc', hf'⟩ := hb'.rule
              go_simp
              try go_ints
              exact hK'
            · intro K' hK'
              simp only [Act.put, List.setIfInBounds_toArray, List.set_cons_zero, List.set_cons_succ]
              exact hK'
          iterate 1
            apply Flow.mv _ rfl
            · intro K' hK'
              simp only [Act.put, Act.eval, List.setIfInBounds_toArray, List.set_cons_zero, List.set_cons_succ, arr_getD, List.getD_cons_zero, List.getD_cons_succ]
              exact hK'
          iterate 1
            apply Flow.calm2 _ _ rfl rfl
            · intro w' hb' K' hK'
              obtain ⟨hc', hf'⟩ := hb'.rule
              go_simp
              try go_ints
              exact hK'
            · intro K' hK'
              simp only [Act.put, List.setIfInBounds_toArray, List.set_cons_zero, List.set_cons_succ]
              exact hK'
          iterate 3
            apply Flow.mv _ rfl
            · intro K' hK'
              simp only [Act.put, Act.eval, List.setIfInBounds_toArray, List.set_cons_zero, List.set_cons_succ, arr_getD, List.getD_cons_zero, List.getD_cons_succ]
              exact hK'
          apply Flow.move rfl
          go_wp2_with fail
          refine (hk.2 _ _ _ (hbl.trans (Bl.refl _).drew) hlt2 hlt).mono ?_
          rintro e w3 ⟨rfl, HB1⟩
          obtain ⟨hc3, hf3⟩ := HB1.rule
          go_wp2_with fail
          refine ⟨fun _ => (by first | exact HB1 | exact Bl.refl _), ?_⟩
          iterate 1
            apply Flow.calm2 _ _ rfl rfl
            · intro w' hb' K' hK'
              obtain ⟨hc', hf'⟩ := hb'.rule
              go_simp
              try go_ints
              exact hK'
            · intro K' hK'
              simp only [Act.put, List.setIfInBounds_toArray, List.set_cons_zero, List.set_cons_succ]
              exact hK'
          refine Flow.tail _ rfl ?_
          go_wp2_with fail
          have hb4 : Bl wr w3 := ((Bl.refl _).drew).trans HB1
          have hst : madeInv w W H f (w3.setCell ⟨w.heap.size + 1, i, none⟩ (Value.bool (f x y))) (i + 1) := by
            refine ⟨(hbl.trans hb4).setCell (by simp) _, ⟨_, (hblk.bl hb4).set_ i _, by simpa using hsz, fun j hj => ?_⟩, (hb2.bl hb4).far (by simp) _, (hb0.bl hb4).far (by simp) _⟩
            by_cases e : i = j
            · subst e
              rw [Hex.out, Hey.out]
              simp [hsz, hilt]
            · rw [Array.getElem?_setIfInBounds_ne e]; exact Hcs.out j (by omega)
          have Hst := Lib.hid hst; clear hst
          exact ⟨⟨x + 1, hlt2, by go_num, by have := Hst.out; rw [Hi.out] at this; simpa [Nat.add_assoc, Hi.out] using this⟩, by simp [intOf]; omega⟩
        · go_wp2_with fail
          exact ⟨⟨y + 1, hlt, by go_num, by rw [Nat.add_mul, Nat.one_mul]; rwa [show x = W by omega] at hinv2⟩, by simp [intOf]; omega⟩
    · have k2 := hinv.2.2.1.all3
      have k0 := hinv.2.2.2.all3
      go_wp2_with fail
      refine bodyPost_ret (v := .agg #[.int .i64 W, .int .i64 H, .slice (some ⟨w.heap.size + 1, 0, none⟩) (W * H) (W * H)]) (by simp [results, Tryd.results99, go_sem, k0]) rfl ?_
      obtain ⟨hbl, ⟨cs, hblk, hsz, hcs⟩, _, _⟩ := hinv
      refine ⟨_, rfl, ⟨_, _, rfl, ?_, fun ad h => by injection h with h; subst h; simp⟩, ?_⟩
      · have hb' := ((hblk.far (p := ⟨w.heap.size, 0, none⟩) (by simp) (.int .i64 W)).far (p := ⟨w.heap.size, 1, none⟩) (by simp) (.int .i64 H)).far (p := ⟨w.heap.size, 2, none⟩) (by simp) (.slice (some ⟨w.heap.size + 1, 0, none⟩) (W * H) (W * H))
        have hl : cs.toList = (grid W H f).map Value.bool := by
          apply List.ext_getElem?
          intro i
          rcases Nat.lt_or_ge i (W * H) with h | h
          · rw [List.getElem?_map, grid_at W H f i h]
            have := hcs i (by have := Nat.mul_comm W H; rw [show y = H by omega]; omega)
            simpa using this
          · rw [List.getElem?_eq_none (by simpa [hsz] using h), List.getElem?_eq_none (by simpa [grid_length] using h)]
        rw [← hl]
        exact hb'.reads (W * H) 1 (by omega)
      · exact ((hbl.setCell (by simp) _).setCell (by simp) _).setCell (by simp) _

def MadeInv (w : World) (W H : Nat) (f : Nat → Nat → Bool) (wr : World) (n : Nat) : Prop :=
  Bl w wr ∧ ∃ v, Blk wr w.heap.size 24 #[.int .i64 0, .int .i64 0, .slice none 0 0] ∧ Blk wr (w.heap.size + 1) 24 #[.int .i64 W, .int .i64 H, v] ∧
    w.heap.size + 2 ≤ wr.heap.size ∧ wr.ownsRow (w.heap.size + 2) 4 1 v n ((gridTo W f n).map Value.bool)

set_option maxRecDepth 100000 in
set_option maxHeartbeats 1000000 in
theorem Made_any (W H : Nat) (f : Nat → Nat → Bool) (k : FuncId) (cap : Array Value) (w : World) (hW : W ≤ 1048576) (hH : H ≤ 1048576) (hWH : W * H ≤ 17179869184) (hk : Paints Tryd.prog k cap Value.bool w W H f) :
    Calls Tryd.prog 101 #[.int .i64 W, .int .i64 H, .func (.func k) #[] cap] w fun e w' => ∃ v, e = .returned v ∧ NPage w.heap.size w' v W H ((grid W H f).map Value.bool) ∧ Bl w w' := by
  have hent := hk.1
  have inv0 : MadeInv w W H f ((w.alloc (.cells #[.int .i64 0, .int .i64 0, .slice none 0 0] 24)).alloc (.cells #[.int .i64 W, .int .i64 H, .slice none 0 0] 24)) 0 := by
    have b0 := Blk.new w 24 #[.int .i64 0, .int .i64 0, .slice none 0 0]
    have b1 := Blk.new (w.alloc (.cells #[.int .i64 0, .int .i64 0, .slice none 0 0] 24)) 24 #[.int .i64 W, .int .i64 H, .slice none 0 0]
    simp only [World.size_alloc] at b1
    exact ⟨((Bl.refl w).alloc _).alloc _, _, b0.alloc _, b1, by simp, World.ownsRow_nil _ _ _ _⟩
  have Inv0 := Lib.hid inv0; clear inv0
  go_enter Tryd.func101, Tryd.ntmps101
  go_wp2_with fail
  go_loopw [14] (fun u wr => ∃ y : Nat, y ≤ H ∧ u = .int .i64 y ∧ MadeInv w W H f wr (y * W)) (fun u _ => H - (intOf u).toNat)
  case atStart => exact ⟨0, Nat.zero_le _, rfl, by simpa using Inv0.out⟩
  case round =>
    obtain ⟨y, hy, rfl, hinv⟩ := hrel
    by_cases hlt : y < H
    · go_wp2_with fail
      go_loopw [18] (fun u wr => ∃ x : Nat, x ≤ W ∧ u = .int .i64 x ∧ MadeInv w W H f wr (y * W + x)) (fun u _ => W - (intOf u).toNat)
      case atStart => exact ⟨0, Nat.zero_le _, rfl, by simpa using hinv⟩
      case round =>
        obtain ⟨x, hx, rfl, hinv2⟩ := hrel
        by_cases hlt2 : x < W
        · obtain ⟨hbl, v, hb0, hb1, hsz, hown⟩ := hinv2
          have k1 := hb1.all3
          have hilt := place_lt hlt2 hlt
          have hgs := gridTo_succ W f Value.bool y x hlt2
          have Hgs := Lib.hid hgs; clear hgs
          go_wp2_with fail
          refine wp_region_flow [(true, 0), (true, 1), (true, 2), (true, 3), (true, 4), (false, 5), (false, 6), (false, 7), (true, 8), (false, 9)] (fun i => i == 7 || i == 9) (by kernel_rfl) (by kernel_rfl) (by kernel_rfl) (by kernel_rfl) ?_
          iterate 1
            apply Flow.calm2 _ _ rfl rfl
            · intro w' hb' K' hK'
              obtain ⟨hc', hf'⟩ := hb'.rule
              go_simp
              try go_ints
              exact hK'
            · intro K' hK'
              simp only [Act.put, List.setIfInBounds_toArray, List.set_cons_zero, List.set_cons_succ]
              exact hK'
          iterate 1
            apply Flow.calm2 _ _ rfl rfl
            · intro w' hb' K' hK'
              obtain ⟨hc', hf'⟩ := hb'.rule
              go_simp
              try go_ints
              exact hK'
            · intro K' hK'
              simp only [Act.put, List.setIfInBounds_toArray, List.set_cons_zero, List.set_cons_succ]
              exact hK'
          iterate 3
            apply Flow.mv _ rfl
            · intro K' hK'
              simp only [Act.put, Act.eval, List.setIfInBounds_toArray, List.set_cons_zero, List.set_cons_succ, arr_getD, List.getD_cons_zero, List.getD_cons_succ]
              exact hK'
          apply Flow.move rfl
          go_wp2_with fail
          refine (hk.2 _ _ _ (hbl.trans (Bl.refl _).drew) hlt2 hlt).mono ?_
          rintro e w3 ⟨rfl, HB1⟩
          have hb3 : Bl wr w3 := ((Bl.refl _).drew).trans HB1
          go_wp2_with fail
          refine ⟨fun _ => (by first | exact HB1 | exact Bl.refl _), ?_⟩
          apply Flow.move rfl
          go_wp2_with fail
          refine ⟨fun _ => ?_, ?_⟩
          · repeat' (first | exact Bl.refl _ | refine Bl.drewL ?_ | refine Bl.drew ?_ | refine Bl.alloc ?_ _)
          apply Flow.move rfl
          refine wpList_append_one rfl (.tmp 22) (.tmp 27) 22 rfl 4 (.bool false) 1 Tryd.underlying22 info_bool rfl (w.heap.size + 2) v (y * W + x) _ rfl _ rfl rfl (hbl.trans hb3) (by omega) (Nat.le_trans hsz hb3.le) (own_bl hown hb3) (by omega) (by unfold maxLen; omega) ?_
          intro v' w4 hown' hbw4 hg4
          obtain ⟨A', c', rfl, _⟩ := own_reads hown'
          have hne : ∀ g, g < w.heap.size + 2 → some g ≠ v.ownBlock := fun g hg e => by have := (hown.lt g e.symm).1; omega
          have hb0' := ((hb0.bl hb3).alloc _).grown hg4 (hne _ (by omega))
          have hb1' := ((hb1.bl hb3).alloc _).grown hg4 (hne _ (by omega))
          have k4 := hb1'.all3
          have hs4 : w.heap.size + 2 ≤ w4.heap.size := by have h5 := hg4.size; have h6 := hb3.le; simp at h5; omega
          go_wp2_with fail
          refine ⟨fun hcl => absurd hcl (by decide), ?_⟩
          iterate 1
            apply Flow.calm2 _ _ rfl rfl
            · intro w' hb' K' hK'
              obtain ⟨hc', hf'⟩ := hb'.rule
              go_simp
              try go_ints
              exact hK'
            · intro K' hK'
              simp only [Act.put, List.setIfInBounds_toArray, List.set_cons_zero, List.set_cons_succ]
              exact hK'
          refine Flow.tail _ rfl ?_
          go_wp2_with fail
          have hst : MadeInv w W H f (w4.setCell ⟨w.heap.size + 1, 2, none⟩ (.slice A' (y * W + x + 1) c')) (y * W + x + 1) := by
            refine ⟨hbw4.setCell (by simp) _, _, hb0'.far (by simp) _, by simpa using hb1'.set_ 2 (.slice A' (y * W + x + 1) c'), by simpa using hs4, ?_⟩
            rw [Hgs.out]
            exact ownsRow_setCell_below hown' (by simp) _
          have Hst := Lib.hid hst; clear hst
          exact ⟨⟨x + 1, hlt2, by go_num, Hst.out⟩, by simp [intOf]; omega⟩
        · go_wp2_with fail
          exact ⟨⟨y + 1, hlt, by go_num, by rw [Nat.add_mul, Nat.one_mul]; rwa [show x = W by omega] at hinv2⟩, by simp [intOf]; omega⟩
    · obtain ⟨hbl, v, hb0, hb1, hsz, hown⟩ := hinv
      obtain rfl : y = H := by omega
      have k1 := hb1.all3
      have k0 := hb0.all3
      obtain ⟨A, c, rfl, hrd⟩ := own_reads hown
      go_wp2_with fail
      refine bodyPost_ret (v := .agg #[.int .i64 W, .int .i64 y, .slice A (y * W) c]) (by simp [results, Tryd.results101, go_sem, k0]) rfl ?_
      have hb' : Bl w (((wr.setCell ⟨w.heap.size, 0, none⟩ (.int .i64 W)).setCell ⟨w.heap.size, 1, none⟩ (.int .i64 y)).setCell ⟨w.heap.size, 2, none⟩ (.slice A (y * W) c)) := ((hbl.setCell (by simp) _).setCell (by simp) _).setCell (by simp) _
      have ho := ownsRow_setCell_below (ownsRow_setCell_below (ownsRow_setCell_below hown (a := ⟨w.heap.size, 0, none⟩) (by simp) (.int .i64 W)) (a := ⟨w.heap.size, 1, none⟩) (by simp) (.int .i64 y)) (a := ⟨w.heap.size, 2, none⟩) (by simp) (.slice A (y * W) c)
      obtain ⟨A', c', e', hrd', hnw⟩ := own_new ho
      injection e' with e1 e2 e3
      subst e1
      refine ⟨_, rfl, ⟨A, c, by rw [Nat.mul_comm W y], ?_, fun ad h => by have := hnw ad h; omega⟩, hb'⟩
      unfold grid
      rw [Nat.mul_comm W y]
      exact hrd'

/-! ### Gray -/
def madeGrayInv (w : World) (W H : Nat) (f : Nat → Nat → Int) (wr : World) (n : Nat) : Prop :=
  Bl w wr ∧ (∃ cs : Array Value, Blk wr (w.heap.size + 1) 5 cs ∧ cs.size = W * H ∧ ∀ i, i < n → cs[i]? = some ((Value.int .u8) (f (i % W) (i / W)))) ∧
    Blk wr (w.heap.size + 1 + 1) 27 #[.int .i64 W, .int .i64 H, .slice (some ⟨w.heap.size + 1, 0, none⟩) (W * H) (W * H)] ∧
    Blk wr w.heap.size 27 #[.int .i64 0, .int .i64 0, .slice none 0 0]

theorem madeGrayInv.start (w : World) (W H : Nat) (f : Nat → Nat → Int) : madeGrayInv w W H f (((w.alloc (.cells #[.int .i64 0, .int .i64 0, .slice none 0 0] 27)).alloc (.cells (madeCells #[.int .u8 0] (W * H)) 5)).alloc
    (.cells #[.int .i64 W, .int .i64 H, .slice (some ⟨w.heap.size + 1, 0, none⟩) (W * H) (W * H)] 27)) 0 := by
  have b0 := Blk.new w 27 #[.int .i64 0, .int .i64 0, .slice none 0 0]
  have b1 := Blk.new (w.alloc (.cells #[.int .i64 0, .int .i64 0, .slice none 0 0] 27)) 5 (madeCells #[.int .u8 0] (W * H))
  have b2 := Blk.new ((w.alloc (.cells #[.int .i64 0, .int .i64 0, .slice none 0 0] 27)).alloc (.cells (madeCells #[.int .u8 0] (W * H)) 5)) 27 #[.int .i64 W, .int .i64 H, .slice (some ⟨w.heap.size + 1, 0, none⟩) (W * H) (W * H)]
  simp only [World.size_alloc] at b1 b2
  exact ⟨(((Bl.refl w).alloc _).alloc _).alloc _, ⟨_, b1.alloc _, size_madeCells _ _, fun i hi => absurd hi (by omega)⟩, b2, (b0.alloc _).alloc _⟩

set_option maxRecDepth 100000 in
set_option maxHeartbeats 1000000 in
theorem madeGray_any (W H : Nat) (f : Nat → Nat → Int) (k : FuncId) (cap : Array Value) (w : World) (hW : W ≤ 1048576) (hH : H ≤ 1048576) (hWH : W * H ≤ 1048576) (hk : Paints Tryd.prog k cap (Value.int .u8) w W H f) :
    Calls Tryd.prog 105 #[.int .i64 W, .int .i64 H, .func (.func k) #[] cap] w fun e w' => ∃ v, e = .returned v ∧ NPage w.heap.size w' v W H ((grid W H f).map (Value.int .u8)) ∧ Bl w w' := by
  have hmk := run_make_row' (P := Tryd.prog) 25 5 (.int .u8 0) 1 Tryd.underlying25 info_u8 rfl .i64 .i64 (W * H) (by omega) (by omega)
  have hent := hk.1
  have eWH : (W : Int) * (H : Int) = ((W * H : Nat) : Int) := by simp
  have h1 : (0:Int) ≤ (W:Int) * (H:Int) := by omega
  have h2 : (W:Int) * (H:Int) ≤ 1048576 := by omega
  rw [← eWH] at hmk
  have EWH := Lib.hid eWH; clear eWH
  have inv0 := Lib.hid (madeGrayInv.start w W H f)
  go_enter Tryd.func105, Tryd.ntmps105
  go_wp2_with fail
  go_loopw [18] (fun v wr => ∃ y : Nat, y ≤ H ∧ v = .int .i64 y ∧ madeGrayInv w W H f wr (y * W)) (fun v _ => H - (intOf v).toNat)
  case atStart => exact ⟨0, Nat.zero_le _, rfl, by simpa using inv0.out⟩
  case round =>
    obtain ⟨y, hy, rfl, hinv⟩ := hrel
    by_cases hlt : y < H
    · go_wp2_with fail
      go_loopw [22] (fun v w2 => ∃ x : Nat, x ≤ W ∧ v = .int .i64 x ∧ madeGrayInv w W H f w2 (y * W + x)) (fun v _ => W - (intOf v).toNat)
      case atStart => exact ⟨0, Nat.zero_le _, rfl, by simpa using hinv⟩
      case round =>
        obtain ⟨x, hx, rfl, hinv2⟩ := hrel
        by_cases hlt2 : x < W
        · obtain ⟨hbl, ⟨cs, hblk, hsz, hcs⟩, hb2, hb0⟩ := hinv2
          have ex : (y * W + x) % W = x := by rw [Nat.mul_comm, Nat.mul_add_mod, Nat.mod_eq_of_lt hlt2]
          have ey : (y * W + x) / W = y := by rw [Nat.mul_comm, Nat.mul_add_div (by omega), Nat.div_eq_of_lt hlt2, Nat.add_zero]
          have hilt := place_lt hlt2 hlt
          obtain ⟨i, hi⟩ : ∃ i, i = y * W + x := ⟨_, rfl⟩
          have e1 : (y : Int) * (W : Int) + (x : Int) = (i : Int) := by rw [hi]; simp
          rw [← hi] at hilt ex ey hcs
          have k2 := hb2.all3
          obtain ⟨vi, ci⟩ : ∃ v, wr.cell? ⟨w.heap.size + 1, i, none⟩ = some v := ⟨cs[i]'(by omega), by rw [hblk.cell]; simp⟩
          have fi := hblk.frozen i
          have hi2 : (i:Int) < (W:Int) * (H:Int) := by have := EWH.out; omega
          have h3 : (0:Int) ≤ (y:Int) * (W:Int) ∧ (y:Int) * (W:Int) ≤ 1048576 := by have := Int.natCast_mul y W; have := EWH.out; omega
          have Hi := Lib.hid hi; have Hcs := Lib.hid hcs; have Hex := Lib.hid ex; have Hey := Lib.hid ey
          clear hi hcs ex ey
          go_wp2_with fail
          refine wp_region_flow [(true, 0), (true, 1), (true, 2), (true, 3), (true, 4), (true, 5), (true, 6), (true, 7), (true, 8), (true, 9), (false, 10), (true, 11), (false, 12)] (fun i => i == 12) (by kernel_rfl) (by kernel_rfl) (by kernel_rfl) (by kernel_rfl) ?_
          iterate 1
            apply Flow.calm2 _ _ rfl rfl
            · intro w' hb' K' hK'
              obtain ⟨hc', hf'⟩ := hb'.rule
              go_simp
              try go_ints
              exact hK'
            · intro K' hK'
              simp only [Act.put, List.setIfInBounds_toArray, List.set_cons_zero, List.set_cons_succ]
              exact hK'
          iterate 1
            apply Flow.calm2 _ _ rfl rfl
            · intro w' hb' K' hK'
              obtain ⟨hc', hf'⟩ := hb'.rule
              go_simp
              try go_ints
              exact hK'
            · intro K' hK'
              simp only [Act.put, List.setIfInBounds_toArray, List.set_cons_zero, List.set_cons_succ]
              exact hK'
          iterate 2
            apply Flow.mv _ rfl
            · intro K' hK'
              simp only [Act.put, Act.eval, List.setIfInBounds_toArray, List.set_cons_zero, List.set_cons_succ, arr_getD, List.getD_cons_zero, List.getD_cons_succ]
              exact hK'
          iterate 1
            apply Flow.calm2 _ _ rfl rfl
            · intro w' hb' K' hK'
              obtain ⟨hc', hf'⟩ := hb'.rule
              go_simp
              try go_ints
              exact hK'
            · intro K' hK'
              simp only [Act.put, List.setIfInBounds_toArray, List.set_cons_zero, List.set_cons_succ]
              exact hK'
          iterate 1
            apply Flow.mv _ rfl
            · intro K' hK'
              simp only [Act.put, Act.eval, List.setIfInBounds_toArray, List.set_cons_zero, List.set_cons_succ, arr_getD, List.getD_cons_zero, List.getD_cons_succ]
              exact hK'
          iterate 1
            apply Flow.calm2 _ _ rfl rfl
            · intro w' hb' K' hK'
              obtain ⟨hc', hf'⟩ := hb'.rule
              go_simp
              try go_ints
              exact hK'
            · intro K' hK'
              simp only [Act.put, List.setIfInBounds_toArray, List.set_cons_zero, List.set_cons_succ]
              exact hK'
          iterate 3
            apply Flow.mv _ rfl
            · intro K' hK'
              simp only [Act.put, Act.eval, List.setIfInBounds_toArray, List.set_cons_zero, List.set_cons_succ, arr_getD, List.getD_cons_zero, List.getD_cons_succ]
              exact hK'
          apply Flow.move rfl
          go_wp2_with fail
          refine (hk.2 _ _ _ (hbl.trans (Bl.refl _).drew) hlt2 hlt).mono ?_
          rintro e w3 ⟨rfl, HB1⟩
          obtain ⟨hc3, hf3⟩ := HB1.rule
          go_wp2_with fail
          refine ⟨fun _ => (by first | exact HB1 | exact Bl.refl _), ?_⟩
          iterate 1
            apply Flow.calm2 _ _ rfl rfl
            · intro w' hb' K' hK'
              obtain ⟨hc', hf'⟩ := hb'.rule
              go_simp
              try go_ints
              exact hK'
            · intro K' hK'
              simp only [Act.put, List.setIfInBounds_toArray, List.set_cons_zero, List.set_cons_succ]
              exact hK'
          refine Flow.tail _ rfl ?_
          go_wp2_with fail
          have hb4 : Bl wr w3 := ((Bl.refl _).drew).trans HB1
          have hst : madeGrayInv w W H f (w3.setCell ⟨w.heap.size + 1, i, none⟩ ((Value.int .u8) (f x y))) (i + 1) := by
            refine ⟨(hbl.trans hb4).setCell (by simp) _, ⟨_, (hblk.bl hb4).set_ i _, by simpa using hsz, fun j hj => ?_⟩, (hb2.bl hb4).far (by simp) _, (hb0.bl hb4).far (by simp) _⟩
            by_cases e : i = j
            · subst e
              rw [Hex.out, Hey.out]
              simp [hsz, hilt]
            · rw [Array.getElem?_setIfInBounds_ne e]; exact Hcs.out j (by omega)
          have Hst := Lib.hid hst; clear hst
          exact ⟨⟨x + 1, hlt2, by go_num, by have := Hst.out; rw [Hi.out] at this; simpa [Nat.add_assoc, Hi.out] using this⟩, by simp [intOf]; omega⟩
        · go_wp2_with fail
          exact ⟨⟨y + 1, hlt, by go_num, by rw [Nat.add_mul, Nat.one_mul]; rwa [show x = W by omega] at hinv2⟩, by simp [intOf]; omega⟩
    · have k2 := hinv.2.2.1.all3
      have k0 := hinv.2.2.2.all3
      go_wp2_with fail
      refine bodyPost_ret (v := .agg #[.int .i64 W, .int .i64 H, .slice (some ⟨w.heap.size + 1, 0, none⟩) (W * H) (W * H)]) (by simp [results, Tryd.results105, go_sem, k0]) rfl ?_
      obtain ⟨hbl, ⟨cs, hblk, hsz, hcs⟩, _, _⟩ := hinv
      refine ⟨_, rfl, ⟨_, _, rfl, ?_, fun ad h => by injection h with h; subst h; simp⟩, ?_⟩
      · have hb' := ((hblk.far (p := ⟨w.heap.size, 0, none⟩) (by simp) (.int .i64 W)).far (p := ⟨w.heap.size, 1, none⟩) (by simp) (.int .i64 H)).far (p := ⟨w.heap.size, 2, none⟩) (by simp) (.slice (some ⟨w.heap.size + 1, 0, none⟩) (W * H) (W * H))
        have hl : cs.toList = (grid W H f).map (Value.int .u8) := by
          apply List.ext_getElem?
          intro i
          rcases Nat.lt_or_ge i (W * H) with h | h
          · rw [List.getElem?_map, grid_at W H f i h]
            have := hcs i (by have := Nat.mul_comm W H; rw [show y = H by omega]; omega)
            simpa using this
          · rw [List.getElem?_eq_none (by simpa [hsz] using h), List.getElem?_eq_none (by simpa [grid_length] using h)]
        rw [← hl]
        exact hb'.reads (W * H) 1 (by omega)
      · exact ((hbl.setCell (by simp) _).setCell (by simp) _).setCell (by simp) _

def MadeGrayInv (w : World) (W H : Nat) (f : Nat → Nat → Int) (wr : World) (n : Nat) : Prop :=
  Bl w wr ∧ ∃ v, Blk wr w.heap.size 27 #[.int .i64 0, .int .i64 0, .slice none 0 0] ∧ Blk wr (w.heap.size + 1) 27 #[.int .i64 W, .int .i64 H, v] ∧
    w.heap.size + 2 ≤ wr.heap.size ∧ wr.ownsRow (w.heap.size + 2) 5 1 v n ((gridTo W f n).map (Value.int .u8))

set_option maxRecDepth 100000 in
set_option maxHeartbeats 1000000 in
theorem MadeGray_any (W H : Nat) (f : Nat → Nat → Int) (k : FuncId) (cap : Array Value) (w : World) (hW : W ≤ 1048576) (hH : H ≤ 1048576) (hWH : W * H ≤ 17179869184) (hk : Paints Tryd.prog k cap (Value.int .u8) w W H f) :
    Calls Tryd.prog 33 #[.int .i64 W, .int .i64 H, .func (.func k) #[] cap] w fun e w' => ∃ v, e = .returned v ∧ NPage w.heap.size w' v W H ((grid W H f).map (Value.int .u8)) ∧ Bl w w' := by
  have hent := hk.1
  have inv0 : MadeGrayInv w W H f ((w.alloc (.cells #[.int .i64 0, .int .i64 0, .slice none 0 0] 27)).alloc (.cells #[.int .i64 W, .int .i64 H, .slice none 0 0] 27)) 0 := by
    have b0 := Blk.new w 27 #[.int .i64 0, .int .i64 0, .slice none 0 0]
    have b1 := Blk.new (w.alloc (.cells #[.int .i64 0, .int .i64 0, .slice none 0 0] 27)) 27 #[.int .i64 W, .int .i64 H, .slice none 0 0]
    simp only [World.size_alloc] at b1
    exact ⟨((Bl.refl w).alloc _).alloc _, _, b0.alloc _, b1, by simp, World.ownsRow_nil _ _ _ _⟩
  have Inv0 := Lib.hid inv0; clear inv0
  go_enter Tryd.func33, Tryd.ntmps33
  go_wp2_with fail
  go_loopw [14] (fun u wr => ∃ y : Nat, y ≤ H ∧ u = .int .i64 y ∧ MadeGrayInv w W H f wr (y * W)) (fun u _ => H - (intOf u).toNat)
  case atStart => exact ⟨0, Nat.zero_le _, rfl, by simpa using Inv0.out⟩
  case round =>
    obtain ⟨y, hy, rfl, hinv⟩ := hrel
    by_cases hlt : y < H
    · go_wp2_with fail
      go_loopw [18] (fun u wr => ∃ x : Nat, x ≤ W ∧ u = .int .i64 x ∧ MadeGrayInv w W H f wr (y * W + x)) (fun u _ => W - (intOf u).toNat)
      case atStart => exact ⟨0, Nat.zero_le _, rfl, by simpa using hinv⟩
      case round =>
        obtain ⟨x, hx, rfl, hinv2⟩ := hrel
        by_cases hlt2 : x < W
        · obtain ⟨hbl, v, hb0, hb1, hsz, hown⟩ := hinv2
          have k1 := hb1.all3
          have hilt := place_lt hlt2 hlt
          have hgs := gridTo_succ W f (Value.int .u8) y x hlt2
          have Hgs := Lib.hid hgs; clear hgs
          go_wp2_with fail
          refine wp_region_flow [(true, 0), (true, 1), (true, 2), (true, 3), (true, 4), (false, 5), (false, 6), (false, 7), (true, 8), (false, 9)] (fun i => i == 7 || i == 9) (by kernel_rfl) (by kernel_rfl) (by kernel_rfl) (by kernel_rfl) ?_
          iterate 1
            apply Flow.calm2 _ _ rfl rfl
            · intro w' hb' K' hK'
              obtain ⟨hc', hf'⟩ := hb'.rule
              go_simp
              try go_ints
              exact hK'
            · intro K' hK'
              simp only [Act.put, List.setIfInBounds_toArray, List.set_cons_zero, List.set_cons_succ]
              exact hK'
          iterate 1
            apply Flow.calm2 _ _ rfl rfl
            · intro w' hb' K' hK'
              obtain ⟨hc', hf'⟩ := hb'.rule
              go_simp
              try go_ints
              exact hK'
            · intro K' hK'
              simp only [Act.put, List.setIfInBounds_toArray, List.set_cons_zero, List.set_cons_succ]
              exact hK'
          iterate 3
            apply Flow.mv _ rfl
            · intro K' hK'
              simp only [Act.put, Act.eval, List.setIfInBounds_toArray, List.set_cons_zero, List.set_cons_succ, arr_getD, List.getD_cons_zero, List.getD_cons_succ]
              exact hK'
          apply Flow.move rfl
          go_wp2_with fail
          refine (hk.2 _ _ _ (hbl.trans (Bl.refl _).drew) hlt2 hlt).mono ?_
          rintro e w3 ⟨rfl, HB1⟩
          have hb3 : Bl wr w3 := ((Bl.refl _).drew).trans HB1
          go_wp2_with fail
          refine ⟨fun _ => (by first | exact HB1 | exact Bl.refl _), ?_⟩
          apply Flow.move rfl
          go_wp2_with fail
          refine ⟨fun _ => ?_, ?_⟩
          · repeat' (first | exact Bl.refl _ | refine Bl.drewL ?_ | refine Bl.drew ?_ | refine Bl.alloc ?_ _)
          apply Flow.move rfl
          refine wpList_append_one rfl (.tmp 22) (.tmp 27) 25 rfl 5 (.int .u8 0) 1 Tryd.underlying25 info_u8 rfl (w.heap.size + 2) v (y * W + x) _ rfl _ rfl rfl (hbl.trans hb3) (by omega) (Nat.le_trans hsz hb3.le) (own_bl hown hb3) (by omega) (by unfold maxLen; omega) ?_
          intro v' w4 hown' hbw4 hg4
          obtain ⟨A', c', rfl, _⟩ := own_reads hown'
          have hne : ∀ g, g < w.heap.size + 2 → some g ≠ v.ownBlock := fun g hg e => by have := (hown.lt g e.symm).1; omega
          have hb0' := ((hb0.bl hb3).alloc _).grown hg4 (hne _ (by omega))
          have hb1' := ((hb1.bl hb3).alloc _).grown hg4 (hne _ (by omega))
          have k4 := hb1'.all3
          have hs4 : w.heap.size + 2 ≤ w4.heap.size := by have h5 := hg4.size; have h6 := hb3.le; simp at h5; omega
          go_wp2_with fail
          refine ⟨fun hcl => absurd hcl (by decide), ?_⟩
          iterate 1
            apply Flow.calm2 _ _ rfl rfl
            · intro w' hb' K' hK'
              obtain ⟨hc', hf'⟩ := hb'.rule
              go_simp
              try go_ints
              exact hK'
            · intro K' hK'
              simp only [Act.put, List.setIfInBounds_toArray, List.set_cons_zero, List.set_cons_succ]
              exact hK'
          refine Flow.tail _ rfl ?_
          go_wp2_with fail
          have hst : MadeGrayInv w W H f (w4.setCell ⟨w.heap.size + 1, 2, none⟩ (.slice A' (y * W + x + 1) c')) (y * W + x + 1) := by
            refine ⟨hbw4.setCell (by simp) _, _, hb0'.far (by simp) _, by simpa using hb1'.set_ 2 (.slice A' (y * W + x + 1) c'), by simpa using hs4, ?_⟩
            rw [Hgs.out]
            exact ownsRow_setCell_below hown' (by simp) _
          have Hst := Lib.hid hst; clear hst
          exact ⟨⟨x + 1, hlt2, by go_num, Hst.out⟩, by simp [intOf]; omega⟩
        · go_wp2_with fail
          exact ⟨⟨y + 1, hlt, by go_num, by rw [Nat.add_mul, Nat.one_mul]; rwa [show x = W by omega] at hinv2⟩, by simp [intOf]; omega⟩
    · obtain ⟨hbl, v, hb0, hb1, hsz, hown⟩ := hinv
      obtain rfl : y = H := by omega
      have k1 := hb1.all3
      have k0 := hb0.all3
      obtain ⟨A, c, rfl, hrd⟩ := own_reads hown
      go_wp2_with fail
      refine bodyPost_ret (v := .agg #[.int .i64 W, .int .i64 y, .slice A (y * W) c]) (by simp [results, Tryd.results33, go_sem, k0]) rfl ?_
      have hb' : Bl w (((wr.setCell ⟨w.heap.size, 0, none⟩ (.int .i64 W)).setCell ⟨w.heap.size, 1, none⟩ (.int .i64 y)).setCell ⟨w.heap.size, 2, none⟩ (.slice A (y * W) c)) := ((hbl.setCell (by simp) _).setCell (by simp) _).setCell (by simp) _
      have ho := ownsRow_setCell_below (ownsRow_setCell_below (ownsRow_setCell_below hown (a := ⟨w.heap.size, 0, none⟩) (by simp) (.int .i64 W)) (a := ⟨w.heap.size, 1, none⟩) (by simp) (.int .i64 y)) (a := ⟨w.heap.size, 2, none⟩) (by simp) (.slice A (y * W) c)
      obtain ⟨A', c', e', hrd', hnw⟩ := own_new ho
      injection e' with e1 e2 e3
      subst e1
      refine ⟨_, rfl, ⟨A, c, by rw [Nat.mul_comm W y], ?_, fun ad h => by have := hnw ad h; omega⟩, hb'⟩
      unfold grid
      rw [Nat.mul_comm W y]
      exact hrd'

end Go.Proofs.YtecfjdladcmhjaaDoor
