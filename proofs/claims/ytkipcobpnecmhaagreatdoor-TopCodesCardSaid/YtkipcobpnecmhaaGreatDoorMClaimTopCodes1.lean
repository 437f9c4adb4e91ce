/- page.CutGray, slices.Contains of bools, page.Blank whatever comes. -/
import Derived.Test.YtkipcobpnecmhaaGreatDoorMClaimTopCodes0

namespace Go.Proofs.YtkipcobpnecmhaaGreatDoor
open Go.RowKit

/-! ### plain -/
def grid {α : Type} (W H : Nat) (f : Nat → Nat → α) : List α := (List.range (W * H)).map fun i => f (i % W) (i / W)
theorem grid_length {α : Type} (W H : Nat) (f : Nat → Nat → α) : (grid W H f).length = W * H := by simp [grid]
theorem grid_at {α : Type} (W H : Nat) (f : Nat → Nat → α) (i : Nat) (h : i < W * H) : (grid W H f)[i]? = some (f (i % W) (i / W)) := by simp [grid, h]
/-- A page with its cells. -/
def IsPage (w : World) (v : Value) (W H : Nat) (cells : List Value) : Prop := ∃ A c, v = .agg #[.int .i64 W, .int .i64 H, .slice A (W * H) c] ∧ Reads w 1 A (W * H) cells
theorem IsPage.bl {w w' : World} {v : Value} {W H : Nat} {cells : List Value} (h : IsPage w v W H cells) (hb : Bl w w') : IsPage w' v W H cells :=
  let ⟨A, c, e, hr⟩ := h
  ⟨A, c, e, hr.bl hb⟩

/-- A page in new memory: from block B on. -/
def NPage (B : Nat) (w : World) (v : Value) (W H : Nat) (cells : List Value) : Prop := ∃ A c, v = .agg #[.int .i64 W, .int .i64 H, .slice A (W * H) c] ∧ Reads w 1 A (W * H) cells ∧ ∀ ad, A = some ad → B ≤ ad.block
theorem NPage.is {B : Nat} {w : World} {v : Value} {W H : Nat} {cells : List Value} (h : NPage B w v W H cells) : IsPage w v W H cells :=
  let ⟨A, c, e, hr, _⟩ := h
  ⟨A, c, e, hr⟩
theorem NPage.bl {B : Nat} {w w' : World} {v : Value} {W H : Nat} {cells : List Value} (h : NPage B w v W H cells) (hb : Bl w w') : NPage B w' v W H cells :=
  let ⟨A, c, e, hr, hn⟩ := h
  ⟨A, c, e, hr.bl hb, hn⟩
theorem NPage.mono {B B' : Nat} {w : World} {v : Value} {W H : Nat} {cells : List Value} (h : NPage B w v W H cells) (hb : B' ≤ B) : NPage B' w v W H cells :=
  let ⟨A, c, e, hr, hn⟩ := h
  ⟨A, c, e, hr, fun ad h => Nat.le_trans hb (hn ad h)⟩
theorem Reads.store {B : Nat} {w : World} {size n : Nat} {A : Option Addr} {xs : List Value} (h : Reads w size A n xs) (hn : ∀ ad, A = some ad → B ≤ ad.block) {p : Addr} (hp : p.block < B) (u : Value) : Reads (w.setCell p u) size A n xs :=
  ⟨h.1, fun hk => by
    obtain ⟨ad, e, hc⟩ := h.2 hk
    exact ⟨ad, e, fun j x hx => by rw [World.cell?_setCell_other w p _ u (fun e' => by have h1 := hn ad e; have h2 := congrArg Addr.block e'; rw [block_of_add] at h2; omega)]; exact hc j x hx⟩⟩
theorem NPage.store {B : Nat} {w : World} {v : Value} {W H : Nat} {cells : List Value} (h : NPage B w v W H cells) {p : Addr} (hp : p.block < B) (u : Value) : NPage B (w.setCell p u) v W H cells :=
  let ⟨A, c, e, hr, hn⟩ := h
  ⟨A, c, e, hr.store hn hp u, hn⟩

/-- A function value that tells a place's value. -/
def Paints {α : Type} (P : Program) (k : FuncId) (cap : Array Value) (con : α → Value) (w : World) (W H : Nat) (f : Nat → Nat → α) : Prop :=
  (∀ args w, (callFunc k args).run P w = .ok (.enter k args) w) ∧
  ∀ wx (x y : Nat), Bl w wx → x < W → y < H → Calls P k (#[.int .i64 x, .int .i64 y] ++ cap) wx fun e w' => e = .returned (con (f x y)) ∧ Bl wx w'
theorem Paints.bl {α : Type} {P : Program} {k : FuncId} {cap : Array Value} {con : α → Value} {w w' : World} {W H : Nat} {f : Nat → Nat → α} (h : Paints P k cap con w W H f) (hb : Bl w w') : Paints P k cap con w' W H f :=
  ⟨h.1, fun wx x y hx => h.2 wx x y (hb.trans hx)⟩

theorem place_lt {W H x y : Nat} (hx : x < W) (hy : y < H) : y * W + x < W * H := by
  have m := mul_step (a := W) hy
  rw [Nat.mul_comm W H]; omega

/-! ### Bits -/
def madeInv (w : World) (W H : Nat) (f : Nat → Nat → Bool) (wr : World) (n : Nat) : Prop :=
  Bl w wr ∧ (∃ cs : Array Value, Blk wr (w.heap.size + 1) 4 cs ∧ cs.size = W * H ∧ ∀ i, i < n → cs[i]? = some (Value.bool (f (i % W) (i / W)))) ∧
    Blk wr (w.heap.size + 1 + 1) 28 #[.int .i64 W, .int .i64 H, .slice (some ⟨w.heap.size + 1, 0, none⟩) (W * H) (W * H)] ∧
    Blk wr w.heap.size 28 #[.int .i64 0, .int .i64 0, .slice none 0 0]

theorem madeInv.start (w : World) (W H : Nat) (f : Nat → Nat → Bool) : madeInv w W H f (((w.alloc (.cells #[.int .i64 0, .int .i64 0, .slice none 0 0] 28)).alloc (.cells (madeCells #[.bool false] (W * H)) 4)).alloc
    (.cells #[.int .i64 W, .int .i64 H, .slice (some ⟨w.heap.size + 1, 0, none⟩) (W * H) (W * H)] 28)) 0 := by
  have b0 := Blk.new w 28 #[.int .i64 0, .int .i64 0, .slice none 0 0]
  have b1 := Blk.new (w.alloc (.cells #[.int .i64 0, .int .i64 0, .slice none 0 0] 28)) 4 (madeCells #[.bool false] (W * H))
  have b2 := Blk.new ((w.alloc (.cells #[.int .i64 0, .int .i64 0, .slice none 0 0] 28)).alloc (.cells (madeCells #[.bool false] (W * H)) 4)) 28 #[.int .i64 W, .int .i64 H, .slice (some ⟨w.heap.size + 1, 0, none⟩) (W * H) (W * H)]
  simp only [World.size_alloc] at b1 b2
  exact ⟨(((Bl.refl w).alloc _).alloc _).alloc _, ⟨_, b1.alloc _, size_madeCells _ _, fun i hi => absurd hi (by omega)⟩, b2, (b0.alloc _).alloc _⟩

/-! ### Gray -/
end Go.Proofs.YtkipcobpnecmhaaGreatDoor


/-! Whether two pages are the same; pages without anything; 'small'. -/
namespace Go.Proofs.YtkipcobpnecmhaaGreatDoor
open Go.RowKit

/-! ### slices.Equal at bool -/
/-! The same page. -/
/-! Nothing at all. -/
/-! ### slices.Equal at byte -/
/-! The same page. -/
/-! Nothing at all. -/
/-! ### bitsIs -/
/-- A function value that makes a page. -/
def MakesPage (P : Program) (k : FuncId) (cap : Array Value) (w : World) (W H : Nat) (cells : List Value) : Prop :=
  (∀ args w, (callFunc k args).run P w = .ok (.enter k args) w) ∧ ∀ wx, Bl w wx → Calls P k cap wx fun e w' => ∃ v, e = .returned v ∧ IsPage w' v W H cells ∧ Bl wx w'

end Go.Proofs.YtkipcobpnecmhaaGreatDoor


/-! page.Means; slices.Equal of numbers; blank pages. -/
namespace Go.Proofs.YtkipcobpnecmhaaGreatDoor
open Go.RowKit

/-- A byte list reads as bytes. -/
def Bytes (zs : List Int) : Prop := ∀ z ∈ zs, 0 ≤ z ∧ z ≤ 255
def valOf (zs : List Int) (i : Nat) : Int := zs.getD i 0
theorem Bytes.at {zs : List Int} (h : Bytes zs) (i : Nat) : 0 ≤ valOf zs i ∧ valOf zs i ≤ 255 := by
  unfold valOf
  rcases Nat.lt_or_ge i zs.length with hl | hl
  · have := h zs[i] (List.getElem_mem hl)
    simpa [List.getD, hl] using this
  · simp [List.getD, List.getElem?_eq_none hl]

end Go.Proofs.YtkipcobpnecmhaaGreatDoor


/-! At, halving and pasting. -/
namespace Go.Proofs.YtkipcobpnecmhaaGreatDoor
open Go.RowKit

/-! ### plain -/
/-- The ink at a place, also beyond the page. -/
def atI (bs : List Bool) (W H x y : Int) : Bool := decide (0 ≤ x ∧ x < W ∧ 0 ≤ y ∧ y < H) && bs.getD (y.toNat * W.toNat + x.toNat) false
def pix (bs : List Bool) (W x y : Nat) : Bool := bs.getD (y * W + x) false
theorem atI_in (bs : List Bool) (W H x y : Nat) (hx : x < W) (hy : y < H) : atI bs W H x y = pix bs W x y := by
  unfold atI pix
  have : decide (0 ≤ (x : Int) ∧ (x : Int) < W ∧ 0 ≤ (y : Int) ∧ (y : Int) < H) = true := by simp; omega
  rw [this]; simp
theorem atI_out (bs : List Bool) (W H x y : Int) (h : ¬ (0 ≤ x ∧ x < W ∧ 0 ≤ y ∧ y < H)) : atI bs W H x y = false := by
  unfold atI; simp only [h]; simp

/-- The cell of a place. -/
theorem Reads.place {w : World} {A : Option Addr} {W H : Nat} {bs : List Bool} (h : Reads w 1 A (W * H) (bs.map .bool)) {x y : Nat} (hx : x < W) (hy : y < H) :
    ∃ ad, A = some ad ∧ w.cell? (ad.add (y * W + x)) = some (.bool (pix bs W x y)) := by
  have hk := place_lt hx hy
  obtain ⟨ad, u, e, hu, hc⟩ := h.at_ hk
  refine ⟨ad, e, ?_⟩
  have hl : y * W + x < bs.length := by have := h.1; simp at this; omega
  have hu' : u = .bool (pix bs W x y) := by simpa [pix, List.getD, hl] using hu.symm
  rw [hc, hu']

/-! ### bedref2.At -/
end Go.Proofs.YtkipcobpnecmhaaGreatDoor


/-! Sums of numbers, tables of numbers in memory. -/
namespace Go.Proofs.YtkipcobpnecmhaaGreatDoor
open Go.RowKit

/-! ### sums -/
def sumN (f : Nat → Nat) : Nat → Nat
  | 0 => 0
  | n + 1 => sumN f n + f n
/-! ### a table of numbers in memory -/
def tabL (N : Nat) (f : Nat → Int) : List Int := (List.range N).map f
end Go.Proofs.YtkipcobpnecmhaaGreatDoor


/-! The plain law of leaning and of profiles. -/
namespace Go.Proofs.YtkipcobpnecmhaaGreatDoor
open Go.RowKit

/-! ### a number that leans -/
/-! ### places of ink -/
def b1 (b : Bool) : Nat := if b then 1 else 0
end Go.Proofs.YtkipcobpnecmhaaGreatDoor


/-! The plain law of ink that is moved place by place. -/
namespace Go.Proofs.YtkipcobpnecmhaaGreatDoor
open Go.RowKit

/-! ### a table of bools in memory -/
def tabB (N : Nat) (f : Nat → Bool) : Array Value := ((List.range N).map fun k => Value.bool (f k)).toArray
theorem tabB_size (N : Nat) (f : Nat → Bool) : (tabB N f).size = N := by simp [tabB]
theorem tabB_get {N : Nat} (f : Nat → Bool) {k : Nat} (h : k < N) : (tabB N f)[k]? = some (.bool (f k)) := by simp [tabB, h]
theorem tabB_congr {N : Nat} {f g : Nat → Bool} (h : ∀ k, k < N → f k = g k) : tabB N f = tabB N g := by
  unfold tabB
  congr 1
  exact List.map_congr_left fun k hk => by rw [h k (List.mem_range.1 hk)]
theorem tabB_set {N : Nat} {f g : Nat → Bool} {a : Nat} {v : Bool} (hg : ∀ k, k < N → g k = if k = a then v else f k) : (tabB N f).setIfInBounds a (.bool v) = tabB N g := by
  apply Array.ext_getElem?
  intro i
  rcases Nat.lt_or_ge i N with h | h
  · rw [tabB_get g h, hg i h]
    by_cases e : a = i
    · subst e
      simp [tabB, h]
    · rw [Array.getElem?_setIfInBounds_ne e, tabB_get f h, if_neg (fun e' => e e'.symm)]
  · rw [Array.getElem?_eq_none (by simp [tabB_size]; exact h), Array.getElem?_eq_none (by rw [tabB_size]; exact h)]
theorem tabB_made (N : Nat) : madeCells #[.bool false] N = tabB N (fun _ => false) := by
  apply Array.ext_getElem?
  intro i
  rcases Nat.lt_or_ge i N with h | h
  · rw [tabB_get _ h]; simp [madeCells, h, Nat.mod_one]
  · rw [Array.getElem?_eq_none (by rw [size_madeCells]; exact h), Array.getElem?_eq_none (by rw [tabB_size]; exact h)]
theorem Blk.tabReadsB {w : World} {g : Nat} {t : TypeId} {N : Nat} {f : Nat → Bool} (h : Blk w g t (tabB N f)) : Reads w 1 (some ⟨g, 0, none⟩) N (((List.range N).map f).map .bool) := by
  have := h.reads N 1 (by rw [tabB_size]; omega)
  have e : (tabB N f).toList = ((List.range N).map f).map .bool := by simp [tabB, Function.comp_def]
  rwa [e] at this
theorem Blk.tabAtB {w : World} {g : Nat} {t : TypeId} {N : Nat} {f : Nat → Bool} (h : Blk w g t (tabB N f)) {k : Nat} (hk : k < N) : w.cell? ⟨g, k, none⟩ = some (.bool (f k)) := (h.cell k).trans (tabB_get f hk)
theorem Blk.tabSetB {w : World} {g : Nat} {t : TypeId} {N : Nat} {f f' : Nat → Bool} (h : Blk w g t (tabB N f)) (a : Nat) (v : Bool) (hg : ∀ k, k < N → f' k = if k = a then v else f k) : Blk (w.setCell ⟨g, a, none⟩ (.bool v)) g t (tabB N f') := by
  have := h.set_ a (.bool v)
  rwa [tabB_set hg] at this

/-! ### moving -/
theorem place_parts {W H k : Nat} (hk : k < W * H) : k % W < W ∧ k / W < H ∧ (k / W) * W + k % W = k := by
  have hW : 0 < W := by rcases Nat.eq_zero_or_pos W with h0 | h0; (subst h0; simp at hk); exact h0
  exact ⟨Nat.mod_lt _ hW, Nat.div_lt_of_lt_mul hk, by have := Nat.div_add_mod k W; rw [Nat.mul_comm] at this; exact this⟩
theorem at_parts {W x : Nat} (y : Nat) (hx : x < W) : (y * W + x) % W = x ∧ (y * W + x) / W = y :=
  ⟨by rw [Nat.mul_comm, Nat.mul_add_mod, Nat.mod_eq_of_lt hx], by rw [Nat.mul_comm, Nat.mul_add_div (by omega), Nat.div_eq_of_lt hx, Nat.add_zero]⟩
end Go.Proofs.YtkipcobpnecmhaaGreatDoor


/-! The plain law of counts and of bounds. -/
namespace Go.Proofs.YtkipcobpnecmhaaGreatDoor
open Go.RowKit

/-! ### counts -/
def rowN (bs : List Bool) (W y : Nat) : Nat := sumN (fun x => b1 (pix bs W x y)) W
def colN (bs : List Bool) (W H x : Nat) : Nat := sumN (fun y => b1 (pix bs W x y)) H
theorem sumN_pos (f : Nat → Nat) : ∀ n, 0 < sumN f n ↔ ∃ i, i < n ∧ 0 < f i
  | 0 => by simp [sumN]
  | n + 1 => by
    have ih := sumN_pos f n
    simp only [sumN]
    constructor
    · intro h
      by_cases h2 : 0 < f n
      · exact ⟨n, by omega, h2⟩
      · obtain ⟨i, hi, h3⟩ := ih.1 (by omega)
        exact ⟨i, by omega, h3⟩
    · rintro ⟨i, hi, h3⟩
      by_cases h2 : i = n
      · subst h2; omega
      · have := ih.2 ⟨i, by omega, h3⟩; omega
theorem b1_pos (b : Bool) : 0 < b1 b ↔ b = true := by cases b <;> simp [b1]
theorem rowN_pos (bs : List Bool) (W y : Nat) : 0 < rowN bs W y ↔ ∃ x, x < W ∧ pix bs W x y = true := by
  unfold rowN; rw [sumN_pos]; simp only [b1_pos]
theorem colN_pos (bs : List Bool) (W H x : Nat) : 0 < colN bs W H x ↔ ∃ y, y < H ∧ pix bs W x y = true := by
  unfold colN; rw [sumN_pos]; simp only [b1_pos]

/-! ### ends -/
def Ends (f : Nat → Nat) (N x r : Nat) : Prop := (x < N ∧ 0 < f x ∧ ∀ j, j < x → f j = 0) ∧ (r < N ∧ 0 < f r ∧ ∀ j, r < j → j < N → f j = 0)
def NoEnds (f : Nat → Nat) (N : Nat) : Prop := ∀ j, j < N → f j = 0
theorem Ends.same {f : Nat → Nat} {N x r x' r' : Nat} (h : Ends f N x r) (k : Ends f N x' r') : x = x' ∧ r = r' := by
  obtain ⟨⟨h1, h2, h3⟩, h4, h5, h6⟩ := h
  obtain ⟨⟨k1, k2, k3⟩, k4, k5, k6⟩ := k
  constructor
  · rcases Nat.lt_trichotomy x x' with c | c | c
    · have := k3 x c; omega
    · exact c
    · have := h3 x' c; omega
  · rcases Nat.lt_trichotomy r r' with c | c | c
    · have := h6 r' c k4; omega
    · exact c
    · have := k6 r c h4; omega
theorem Ends.not {f : Nat → Nat} {N x r : Nat} (h : Ends f N x r) (k : NoEnds f N) : False := by
  have := k x h.1.1
  have := h.1.2.1
  omega

/-! ### bounds -/
def BoundsIs (bs : List Bool) (W H : Nat) (is : Bool) (X Y BW BH : Int) : Prop :=
  (is = false ∧ NoEnds (colN bs W H) W ∧ X = 0 ∧ Y = 0 ∧ BW = 0 ∧ BH = 0) ∨
  (is = true ∧ ∃ l r t b : Nat, Ends (colN bs W H) W l r ∧ Ends (rowN bs W) H t b ∧ X = l ∧ Y = t ∧ BW = (r : Int) - l + 1 ∧ BH = (b : Int) - t + 1)
theorem BoundsIs.same {bs : List Bool} {W H : Nat} {is is' : Bool} {X Y BW BH X' Y' BW' BH' : Int} (h : BoundsIs bs W H is X Y BW BH) (k : BoundsIs bs W H is' X' Y' BW' BH') : is = is' ∧ X = X' ∧ Y = Y' ∧ BW = BW' ∧ BH = BH' := by
  rcases h with ⟨h1, h2, h3, h4, h5, h6⟩ | ⟨h1, l, r, t, b, h2, h3, h4, h5, h6, h7⟩ <;> rcases k with ⟨k1, k2, k3, k4, k5, k6⟩ | ⟨k1, l', r', t', b', k2, k3, k4, k5, k6, k7⟩
  · exact ⟨by rw [h1, k1], by omega, by omega, by omega, by omega⟩
  · exact (k2.not h2).elim
  · exact (h2.not k2).elim
  · obtain ⟨e1, e2⟩ := h2.same k2
    obtain ⟨e3, e4⟩ := h3.same k3
    exact ⟨by rw [h1, k1], by omega, by omega, by omega, by omega⟩
/-- The bounds so far. -/
def BInv (bs : List Bool) (W H m : Nat) (l t r b : Int) : Prop :=
  ((∀ i, i < m → bs.getD i false = false) ∧ l = W ∧ t = H ∧ r = -1 ∧ b = -1) ∨
  ((∃ i, i < m ∧ bs.getD i false = true ∧ l = ((i % W : Nat) : Int)) ∧ (∃ i, i < m ∧ bs.getD i false = true ∧ t = ((i / W : Nat) : Int)) ∧ (∃ i, i < m ∧ bs.getD i false = true ∧ r = ((i % W : Nat) : Int)) ∧ (∃ i, i < m ∧ bs.getD i false = true ∧ b = ((i / W : Nat) : Int)) ∧
    ∀ i, i < m → bs.getD i false = true → l ≤ ((i % W : Nat) : Int) ∧ ((i % W : Nat) : Int) ≤ r ∧ t ≤ ((i / W : Nat) : Int) ∧ ((i / W : Nat) : Int) ≤ b)
theorem BInv.start (bs : List Bool) (W H : Nat) : BInv bs W H 0 W H (-1) (-1) := Or.inl ⟨fun i hi => by omega, rfl, rfl, rfl, rfl⟩
theorem BInv.no {bs : List Bool} {W H m : Nat} {l t r b : Int} (h : BInv bs W H m l t r b) (hm : bs.getD m false = false) : BInv bs W H (m + 1) l t r b := by
  rcases h with ⟨h1, h2⟩ | ⟨⟨i1, a1, b1', c1⟩, ⟨i2, a2, b2, c2⟩, ⟨i3, a3, b3, c3⟩, ⟨i4, a4, b4, c4⟩, h5⟩
  · refine Or.inl ⟨fun i hi => ?_, h2⟩
    rcases Nat.lt_or_ge i m with c | c
    · exact h1 i c
    · obtain rfl : i = m := by omega
      exact hm
  · refine Or.inr ⟨⟨i1, by omega, b1', c1⟩, ⟨i2, by omega, b2, c2⟩, ⟨i3, by omega, b3, c3⟩, ⟨i4, by omega, b4, c4⟩, fun i hi hb => ?_⟩
    rcases Nat.lt_or_ge i m with c | c
    · exact h5 i c hb
    · obtain rfl : i = m := by omega
      rw [hm] at hb; cases hb
theorem pix_place {bs : List Bool} {W H i : Nat} (hi : i < W * H) : pix bs W (i % W) (i / W) = bs.getD i false := by
  unfold pix; rw [(place_parts hi).2.2]
/-- What comes out. -/
theorem BInv.done {bs : List Bool} {W H : Nat} {l t r b : Int} (h : BInv bs W H (W * H) l t r b) :
    (r < 0 ∧ BoundsIs bs W H false 0 0 0 0) ∨ (¬ r < 0 ∧ BoundsIs bs W H true l t (r - l + 1) (b - t + 1)) := by
  rcases h with ⟨h1, rfl, rfl, rfl, rfl⟩ | ⟨⟨i1, a1, b1', c1⟩, ⟨i2, a2, b2, c2⟩, ⟨i3, a3, b3, c3⟩, ⟨i4, a4, b4, c4⟩, h5⟩
  · refine Or.inl ⟨by omega, Or.inl ⟨rfl, fun x hx => ?_, rfl, rfl, rfl, rfl⟩⟩
    rcases Nat.eq_zero_or_pos (colN bs W H x) with e | e
    · exact e
    · obtain ⟨y, hy, hp⟩ := (colN_pos bs W H x).1 e
      have := h1 (y * W + x) (place_lt hx hy)
      unfold pix at hp
      rw [this] at hp; cases hp
  · have q1 := place_parts a1; have q2 := place_parts a2; have q3 := place_parts a3; have q4 := place_parts a4
    have all : ∀ x y, x < W → y < H → pix bs W x y = true → l ≤ x ∧ (x : Int) ≤ r ∧ t ≤ y ∧ (y : Int) ≤ b := fun x y hx hy hp => by
      have := h5 (y * W + x) (place_lt hx hy) hp
      rwa [(at_parts y hx).1, (at_parts y hx).2] at this
    refine Or.inr ⟨by omega, Or.inr ⟨rfl, i1 % W, i3 % W, i2 / W, i4 / W, ⟨⟨q1.1, (colN_pos _ _ _ _).2 ⟨i1 / W, q1.2.1, by rw [pix_place a1]; exact b1'⟩, fun j hj => ?_⟩, q3.1, (colN_pos _ _ _ _).2 ⟨i3 / W, q3.2.1, by rw [pix_place a3]; exact b3⟩, fun j hj hj2 => ?_⟩,
      ⟨⟨q2.2.1, (rowN_pos _ _ _).2 ⟨i2 % W, q2.1, by rw [pix_place a2]; exact b2⟩, fun j hj => ?_⟩, q4.2.1, (rowN_pos _ _ _).2 ⟨i4 % W, q4.1, by rw [pix_place a4]; exact b4⟩, fun j hj hj2 => ?_⟩, c1, c2, by rw [c1, c3], by rw [c2, c4]⟩⟩
    · rcases Nat.eq_zero_or_pos (colN bs W H j) with e | e
      · exact e
      · obtain ⟨y, hy, hp⟩ := (colN_pos bs W H j).1 e
        have := all j y (by omega) hy hp; omega
    · rcases Nat.eq_zero_or_pos (colN bs W H j) with e | e
      · exact e
      · obtain ⟨y, hy, hp⟩ := (colN_pos bs W H j).1 e
        have := all j y (by omega) hy hp; omega
    · rcases Nat.eq_zero_or_pos (rowN bs W j) with e | e
      · exact e
      · obtain ⟨x, hx, hp⟩ := (rowN_pos bs W j).1 e
        have := all x j hx (by omega) hp; omega
    · rcases Nat.eq_zero_or_pos (rowN bs W j) with e | e
      · exact e
      · obtain ⟨x, hx, hp⟩ := (rowN_pos bs W j).1 e
        have := all x j hx (by omega) hp; omega

/-! ### values -/
end Go.Proofs.YtkipcobpnecmhaaGreatDoor


/-! glyph.distance is farN. -/
namespace Go.Proofs.YtkipcobpnecmhaaGreatDoor
open Go.RowKit

theorem pix_cell {w : World} {A : Option Addr} {n : Nat} {bs : List Bool} (h : Reads w 1 A n (bs.map .bool)) {k : Nat} (hk : k < n) : ∃ ad, A = some ad ∧ w.cell? (ad.add k) = some (.bool (bs.getD k false)) := by
  obtain ⟨ad, u, e, hu, hc⟩ := h.at_ hk
  refine ⟨ad, e, ?_⟩
  simp only [List.getElem?_map, Option.map_eq_some_iff] at hu
  obtain ⟨b, hb1, hb2⟩ := hu
  rw [hc, ← hb2, List.getD, hb1]
  rfl

end Go.Proofs.YtkipcobpnecmhaaGreatDoor


/-! Rows that a call owns, and rows that lie: cells that are set, rows that grow. -/
namespace Go.Proofs.YtkipcobpnecmhaaGreatDoor
open Go.RowKit

theorem ownsRow_set {w : World} {base : Nat} {e : TypeId} {size n g cap : Nat} {xs : List Value} (h : w.ownsRow base e size (.slice (some ⟨g, 0, none⟩) n cap) n xs) (j : Nat) (u : Value) : (w.setCell ⟨g, j, none⟩ u).ownsRow base e size (.slice (some ⟨g, 0, none⟩) n cap) n (xs.set j u) := by
  refine ⟨by rw [List.length_set]; exact h.1, ?_⟩
  rcases h.2 with ⟨hv, _⟩ | ⟨g', cap', cur, hv, hb, hg, hn, hc, hs, ht⟩
  · cases hv
  · injection hv with h1 h2 h3
    injection h1 with h1
    injection h1 with h1
    subst h1
    subst h3
    refine .inr ⟨g, cap, cur.setIfInBounds j u, rfl, hb, ?_, hn, hc, by simpa using hs, ?_⟩
    · simp [World.setCell, Array.getElem?_modify, hg]
    · rw [Array.toList_setIfInBounds, List.take_set, ht]
theorem add_flat (g i : Nat) : (⟨g, 0, none⟩ : Addr).add i = ⟨g, i, none⟩ := by unfold Addr.add; split <;> simp_all
theorem Reads.lt {w : World} {A : Option Addr} {n : Nat} {xs : List Value} (h : Reads w 1 A n xs) : ∀ a, A = some a → 0 < n → a.block < w.heap.size := fun a ha hn => by
  obtain ⟨ad, u, e, -, hc⟩ := h.at_ hn
  rw [ha] at e
  injection e with e
  subst e
  have := World.block_lt_of_cell? w _ hc
  rwa [block_of_add] at this
theorem Reads.far {w : World} {size n : Nat} {A : Option Addr} {xs : List Value} (h : Reads w size A n xs) {p : Addr} (hn : ∀ a, A = some a → 0 < n → a.block ≠ p.block) (u : Value) : Reads (w.setCell p u) size A n xs :=
  ⟨h.1, fun hk => by
    obtain ⟨ad, e, hc⟩ := h.2 hk
    exact ⟨ad, e, fun j x hx => by rw [World.cell?_setCell_other w p _ u (fun e' => by have h1 := hn ad e hk; have h2 := congrArg Addr.block e'; rw [block_of_add] at h2; omega)]; exact hc j x hx⟩⟩
theorem Reads.grown {w w' : World} {n : Nat} {A : Option Addr} {xs : List Value} {row : Option Nat} (h : Reads w 1 A n xs) (hb : w.grownBy w' row) (hn : ∀ a, A = some a → 0 < n → some a.block ≠ row) : Reads w' 1 A n xs :=
  ⟨h.1, fun hk => by
    obtain ⟨ad, e, hc⟩ := h.2 hk
    refine ⟨ad, e, fun j x hx => ?_⟩
    rw [World.cell?_of_block (hb.block _ (by rw [block_of_add]; exact h.lt ad e hk) (by rw [block_of_add]; exact hn ad e hk))]
    exact hc j x hx⟩
theorem own_some {w : World} {base : Nat} {e : TypeId} {size n : Nat} {v : Value} {xs : List Value} (h : w.ownsRow base e size v n xs) (hn : 0 < n) : ∃ g cap, v = .slice (some ⟨g, 0, none⟩) n cap ∧ base ≤ g ∧ n ≤ cap := by
  rcases h.2 with ⟨-, h0⟩ | ⟨g, cap, cur, rfl, hb, -, hc, -⟩
  · omega
  · exact ⟨g, cap, rfl, hb, hc⟩
theorem own_lt {w : World} {base : Nat} {e : TypeId} {size n g cap : Nat} {xs : List Value} (h : w.ownsRow base e size (.slice (some ⟨g, 0, none⟩) n cap) n xs) : g < w.heap.size := by
  rcases h.2 with ⟨hv, -⟩ | ⟨g', cap', cur, hv, -, hg, -⟩
  · cases hv
  · injection hv with h1 h2 h3
    injection h1 with h1
    injection h1 with h1
    subst h1
    exact (Array.getElem?_eq_some_iff.1 hg).1
theorem own_blk {w : World} {base : Nat} {e : TypeId} {size n g cap : Nat} {xs : List Value} (h : w.ownsRow base e size (.slice (some ⟨g, 0, none⟩) n cap) n xs) : (∀ j, j < n * size → ∃ v, w.cell? ⟨g, j, none⟩ = some v) ∧ ∀ j, w.frozen? ⟨g, j, none⟩ = false := by
  rcases h.2 with ⟨hv, -⟩ | ⟨g', cap', cur, hv, -, hg, hn, -, hs, -⟩
  · cases hv
  · injection hv with h1 h2 h3
    injection h1 with h1
    injection h1 with h1
    subst h1
    subst h3
    have hb : Blk w g e cur := hg
    refine ⟨fun j hj => ?_, hb.frozen⟩
    have hlt : j < cur.size := by have := Nat.mul_le_mul_right size hn; omega
    exact ⟨cur[j], by rw [hb.cell]; exact Array.getElem?_eq_getElem hlt⟩
theorem page_ok {W H : Nat} (h1 : 1 ≤ W) (h2 : W ≤ 4000) (h3 : 1 ≤ H) (h4 : H ≤ 4000) (h5 : W * H ≤ 1048576) : pageErr (W : Int) (H : Int) (W * H) = 0 := by
  have e := Int.natCast_mul W H
  have hs : sizeErr (W : Int) (H : Int) = 0 := by
    unfold sizeErr
    rw [if_pos (by omega), if_neg (by omega)]
  unfold pageErr
  rw [if_pos hs, if_pos (by omega)]

end Go.Proofs.YtkipcobpnecmhaaGreatDoor


/-! The plain law of the pieces of a line: columns with ink that lie side by side. -/
namespace Go.Proofs.YtkipcobpnecmhaaGreatDoor
open Go.RowKit

/-- Is the column ahead inked? -/
def ahead (f : Nat → Nat) : Nat → Bool
  | 0 => false
  | k + 1 => decide (0 < f k)
end Go.Proofs.YtkipcobpnecmhaaGreatDoor


/-! A page and an error: both outcomes under one roof; pages as grids. -/
namespace Go.Proofs.YtkipcobpnecmhaaGreatDoor
open Go.RowKit

/-- The page that a function answers with its error: made anew, or empty. -/
def Res (B : Nat) (w : World) (err : Int) (W H : Nat) (cells : List Value) (a b : Int) (R : Option Addr) (m c : Nat) : Prop :=
  (err = 0 → NPage B w (.agg #[.int .i64 a, .int .i64 b, .slice R m c]) W H cells) ∧ (err ≠ 0 → a = 0 ∧ b = 0 ∧ R = none ∧ m = 0 ∧ c = 0)
theorem Res.bl {B : Nat} {w w' : World} {err : Int} {W H : Nat} {cells : List Value} {a b : Int} {R : Option Addr} {m c : Nat} (h : Res B w err W H cells a b R m c) (hb : Bl w w') : Res B w' err W H cells a b R m c :=
  ⟨fun e => (h.1 e).bl hb, h.2⟩
theorem Res.mono {B B' : Nat} {w : World} {err : Int} {W H : Nat} {cells : List Value} {a b : Int} {R : Option Addr} {m c : Nat} (h : Res B w err W H cells a b R m c) (hb : B' ≤ B) : Res B' w err W H cells a b R m c :=
  ⟨fun e => (h.1 e).mono hb, h.2⟩
theorem Res.zero (B : Nat) (w : World) {err : Int} (W H : Nat) (cells : List Value) (h : err ≠ 0) : Res B w err W H cells 0 0 none 0 0 :=
  ⟨fun e => absurd e h, fun _ => ⟨rfl, rfl, rfl, rfl, rfl⟩⟩
theorem Res.page {B : Nat} {w : World} {err : Int} {W H c : Nat} {R : Option Addr} {cells : List Value} (h : err = 0) (hr : Reads w 1 R (W * H) cells) (hn : ∀ ad, R = some ad → B ≤ ad.block) : Res B w err W H cells W H R (W * H) c :=
  ⟨fun _ => ⟨R, c, rfl, hr, hn⟩, fun e => absurd h e⟩

theorem MakesPage.bl {P : Program} {k : FuncId} {cap : Array Value} {w w' : World} {W H : Nat} {cells : List Value} (h : MakesPage P k cap w W H cells) (hb : Bl w w') : MakesPage P k cap w' W H cells :=
  ⟨h.1, fun wx hx => h.2 wx (hb.trans hx)⟩

/-! ### grids -/
theorem grid_get {α : Type} (W H : Nat) (f : Nat → Nat → α) (x y : Nat) (hx : x < W) (hy : y < H) : (grid W H f)[y * W + x]? = some (f x y) := by
  rw [grid_at _ _ _ _ (place_lt hx hy), Nat.mul_comm, Nat.mul_add_mod, Nat.mod_eq_of_lt hx, Nat.mul_add_div (by omega), Nat.div_eq_of_lt hx, Nat.add_zero]
theorem pix_grid (W H : Nat) (f : Nat → Nat → Bool) (x y : Nat) (hx : x < W) (hy : y < H) : pix (grid W H f) W x y = f x y := by
  unfold pix
  simp [List.getD, grid_get W H f x y hx hy]
/-! ### turned by quarters -/
def tW (k W H : Nat) : Nat := if k = 1 ∨ k = 3 then H else W
def tH (k W H : Nat) : Nat := if k = 1 ∨ k = 3 then W else H
def tF {α : Type} (f : Nat → Nat → α) (k W H x y : Nat) : α :=
  if k = 1 then f y (H - 1 - x) else if k = 2 then f (W - 1 - x) (H - 1 - y) else if k = 3 then f (W - 1 - y) x else f x y
theorem t_size (k W H : Nat) : tW k W H * tH k W H = W * H := by
  unfold tW tH
  split <;> simp [Nat.mul_comm]
theorem t_in (k W H x y : Nat) (hx : x < tW k W H) (hy : y < tH k W H) : tF (fun x y => y * W + x) k W H x y < W * H := by
  unfold tW at hx
  unfold tH at hy
  unfold tF
  split
  · rename_i h
    rw [if_pos (Or.inl h)] at hx hy
    exact place_lt (W := W) (H := H) (x := y) (y := H - 1 - x) hy (by omega)
  · split
    · rename_i h1 h
      subst h
      simp at hx hy
      exact place_lt (W := W) (H := H) (x := W - 1 - x) (y := H - 1 - y) (by omega) (by omega)
    · split
      · rename_i h1 h2 h
        subst h
        simp at hx hy
        exact place_lt (W := W) (H := H) (x := W - 1 - y) (y := x) (by omega) hx
      · rename_i h1 h2 h3
        rw [if_neg (by omega)] at hx hy
        exact place_lt hx hy
def quarter (q : Int) : Nat := (q % 4).toNat
theorem Res.store {B : Nat} {w : World} {err : Int} {W H : Nat} {cells : List Value} {a b : Int} {R : Option Addr} {m c : Nat} (h : Res B w err W H cells a b R m c) {p : Addr} (hp : p.block < B) (u : Value) : Res B (w.setCell p u) err W H cells a b R m c :=
  ⟨fun e => (h.1 e).store hp u, h.2⟩

end Go.Proofs.YtkipcobpnecmhaaGreatDoor


/-! The plain law of fonts: what is wrong with one; how letters lie in memory. -/
namespace Go.Proofs.YtkipcobpnecmhaaGreatDoor
open Go.RowKit

/-- A letter: its text, its page's size, where the page's pixels lie, and what they are. -/
structure Ltr where
  text : List UInt8
  W : Int
  H : Int
  A : Option Addr
  m : Nat
  c : Nat
  bs : List Bool
def Ltr.cells (l : Ltr) : List Value := [.string ⟨l.text.toArray⟩, .int .i64 l.W, .int .i64 l.H, .slice l.A l.m l.c]
def ltrCells (ls : List Ltr) : List Value := ls.flatMap Ltr.cells
theorem ltrCells_len (ls : List Ltr) : (ltrCells ls).length = ls.length * 4 := by
  unfold ltrCells
  induction ls with
  | nil => rfl
  | cons l ls ih =>
    rw [List.flatMap_cons, List.length_append, ih, List.length_cons]
    show 4 + ls.length * 4 = (ls.length + 1) * 4
    omega
theorem ltrCells_append (a b : List Ltr) : ltrCells (a ++ b) = ltrCells a ++ ltrCells b := by unfold ltrCells; rw [List.flatMap_append]
theorem ltrCells_at {ls : List Ltr} {i : Nat} {l : Ltr} (h : ls[i]? = some l) (j : Nat) (hj : j < 4) : (ltrCells ls)[i * 4 + j]? = l.cells[j]? := by
  induction ls generalizing i with
  | nil => simp at h
  | cons x ls ih =>
    unfold ltrCells
    rw [List.flatMap_cons]
    rcases i with _ | i
    · simp only [List.getElem?_cons_zero, Option.some.injEq] at h
      subst h
      rw [List.getElem?_append_left (by show 0 * 4 + j < 4; omega)]
      simp
    · rw [List.getElem?_append_right (by show 4 ≤ (i + 1) * 4 + j; omega)]
      have e : (i + 1) * 4 + j - x.cells.length = i * 4 + j := by
        show (i + 1) * 4 + j - 4 = i * 4 + j
        omega
      rw [e]
      exact ih (by simpa using h)
/-- The letters lie there. -/
def LtrsAt (w : World) (L : Option Addr) (ls : List Ltr) : Prop := Reads w 4 L ls.length (ltrCells ls) ∧ ∀ l ∈ ls, Reads w 1 l.A l.m (l.bs.map .bool) ∧ l.text.length ≤ 9223372036854775807
theorem LtrsAt.bl {w w' : World} {L : Option Addr} {ls : List Ltr} (h : LtrsAt w L ls) (hb : Bl w w') : LtrsAt w' L ls := ⟨h.1.bl hb, fun l hl => ⟨(h.2 l hl).1.bl hb, (h.2 l hl).2⟩⟩
theorem LtrsAt.at_ {w : World} {L : Option Addr} {ls : List Ltr} {i : Nat} {l : Ltr} (h : LtrsAt w L ls) (hi : ls[i]? = some l) : ∃ ad, L = some ad ∧ w.cell? (ad.add (i * 4)) = some (.string ⟨l.text.toArray⟩) ∧ w.cell? ⟨(ad.add (i * 4)).block, (ad.add (i * 4)).off + 1, none⟩ = some (.int .i64 l.W) ∧
    w.cell? ⟨(ad.add (i * 4)).block, (ad.add (i * 4)).off + 2, none⟩ = some (.int .i64 l.H) ∧ w.cell? ⟨(ad.add (i * 4)).block, (ad.add (i * 4)).off + 3, none⟩ = some (.slice l.A l.m l.c) := by
  have hlt : i < ls.length := (List.getElem?_eq_some_iff.1 hi).1
  obtain ⟨ad, e, hc⟩ := h.1.2 (by omega)
  have key : ∀ j v, j < 4 → l.cells[j]? = some v → w.cell? ((ad.add (i * 4)).add j) = some v := fun j v hj hv => by
    rw [add_of_add]
    exact hc _ _ (by rw [ltrCells_at hi j hj]; exact hv)
  have k0 := key 0 _ (by omega) rfl
  have k1 := key 1 _ (by omega) rfl
  have k2 := key 2 _ (by omega) rfl
  have k3 := key 3 _ (by omega) rfl
  rw [Addr.add_zero'] at k0
  rw [Addr.add_succ'] at k1 k2 k3
  exact ⟨ad, e, k0, k1, k2, k3⟩
theorem LtrsAt.take {w : World} {L : Option Addr} {ls : List Ltr} (h : LtrsAt w L ls) (i : Nat) (hi : i ≤ ls.length) : LtrsAt w L (ls.take i) := by
  have hl : (ls.take i).length = i := by simp; omega
  refine ⟨⟨ltrCells_len _, fun hn => ?_⟩, fun l hm => h.2 l (List.mem_of_mem_take hm)⟩
  obtain ⟨ad, e, hc⟩ := h.1.2 (by omega)
  refine ⟨ad, e, fun j u hj => hc j u ?_⟩
  have e2 : ltrCells ls = ltrCells (ls.take i) ++ ltrCells (ls.drop i) := by rw [← ltrCells_append, List.take_append_drop]
  rw [e2, List.getElem?_append_left (List.getElem?_eq_some_iff.1 hj).1]
  exact hj

/-! ### what is wrong -/
def textB (l : List UInt8) : Bool := decide (∀ b ∈ l, 33 ≤ b.toNat ∧ b.toNat ≤ 126) && decide (1 ≤ l.length ∧ l.length ≤ 4)
/-- Does some column have no ink? -/
def bareB (bs : List Bool) (W H : Nat) : Bool := decide (∃ x, x < W ∧ colN bs W H x = 0)
def ltrErr (ht : Int) (prev : List (List UInt8)) (l : Ltr) : Int :=
  firstNZ [whenI (!textB l.text) 2, whenI (decide (l.text ∈ prev)) 6, pageErr l.W l.H l.m, whenI (l.H != ht) 11, whenI (decide (64 < l.W)) 4, whenI (bareB l.bs l.W.toNat l.H.toNat) 2]
def ltrsErr (ht : Int) : List (List UInt8) → List Ltr → Int
  | _, [] => 0
  | prev, l :: ls => if ltrErr ht prev l = 0 then ltrsErr ht (prev ++ [l.text]) ls else ltrErr ht prev l
def rangeB (ht gap sp : Int) : Bool := inB ht 1 64 && (inB gap 1 16 && inB sp 1 64)
def fontHead (nm : Bool) (ht gap sp : Int) (n : Nat) : Int := firstNZ [whenI (!nm) 5, whenI (!rangeB ht gap sp) 3, whenI (decide (sp ≤ gap)) 7, whenI (decide (n = 0)) 9, whenI (decide (200 < n)) 4]
def fontErr (nm : Bool) (ht gap sp : Int) (ls : List Ltr) : Int := if fontHead nm ht gap sp ls.length = 0 then ltrsErr ht [] ls else fontHead nm ht gap sp ls.length
end Go.Proofs.YtkipcobpnecmhaaGreatDoor


/-! slices.Equal of numbers; blank pages; 'pages'. -/
namespace Go.Proofs.YtkipcobpnecmhaaGreatDoor
open Go.RowKit

/-! ### blank pages -/
set_option maxRecDepth 100000 in
set_option maxHeartbeats 400000 in
theorem blank_ok (W H : Nat) (w : World) (hs : sizeErr W H = 0) :
    Calls Tryz.prog 9 #[.int .i64 W, .int .i64 H] w fun e w' =>
      ∃ g, e = .returned (.tuple #[.agg #[.int .i64 W, .int .i64 H, .slice (some ⟨g, 0, none⟩) (W * H) (W * H)], .int .i64 0]) ∧ Blk w' g 4 (Array.replicate (W * H) (.bool false)) ∧ Bl w w' := by
  have hz' := sizeErr_zero hs
  have hWH : (W : Int) * (H : Int) = ((W * H : Nat) : Int) := by simp
  have h1 : (0:Int) ≤ (W:Int) * (H:Int) := by omega
  have h2 : (W:Int) * (H:Int) ≤ 1048576 := by omega
  have hN : W * H ≤ 1048576 := by omega
  have hmk := run_make_row' (P := Tryz.prog) 26 4 (.bool false) 1 Tryz.underlying26 info_bool rfl .i64 .i64 (W * H) (by omega) (by omega)
  rw [← hWH] at hmk
  have hq : (sizeErr W H != 0) = false := by simp [hs]
  have HS := Lib.hid hs; have HWH := Lib.hid hWH
  clear hs hWH
  go_enter Tryz.func9, Tryz.ntmps9
  go_wp2_with (go_at_call 35; refine (checkSize_any _ _ _).mono ?_; rintro e w1 ⟨rfl, rfl⟩)
  have hm : madeCells #[.bool false] (W * H) = Array.replicate (W * H) (.bool false) := by
    apply Array.ext_getElem?
    intro i
    rcases Nat.lt_or_ge i (W * H) with h | h
    · simp [madeCells, h, Nat.mod_one]
    · rw [Array.getElem?_eq_none (by rw [size_madeCells]; exact h), Array.getElem?_eq_none (by simpa using h)]
  rw [hm]
  refine bodyPost_ret (v := .tuple #[.agg #[.int .i64 W, .int .i64 H, .slice (some ⟨w.heap.size + 1, 0, none⟩) (W * H) (W * H)], .int .i64 0]) (by simp [results, Tryz.results9, go_sem]) rfl ⟨_, rfl, ?_, ?_⟩
  · have hb := Blk.new (w.alloc (.cells #[.int .i64 W, .int .i64 H, .slice (some ⟨w.heap.size + 1, 0, none⟩) (W * H) (W * H)] 28)) 4 (Array.replicate (W * H) (.bool false))
    simpa using hb
  · repeat' (first | exact Bl.refl _ | refine Bl.drew ?_ | refine Bl.setCell ?_ (by simp) _ | refine Bl.alloc ?_ _)

set_option maxRecDepth 100000 in
set_option maxHeartbeats 400000 in
theorem blank_bad (W H : Int) (w : World) (hs : sizeErr W H ≠ 0) :
    Calls Tryz.prog 9 #[.int .i64 W, .int .i64 H] w fun e w' =>
      e = .returned (.tuple #[.agg #[.int .i64 0, .int .i64 0, .slice none 0 0], .int .i64 (sizeErr W H)]) ∧ Bl w w' := by
  have hq : (sizeErr W H != 0) = true := by simp [hs]
  clear hs
  go_enter Tryz.func9, Tryz.ntmps9
  go_wp2_with (go_at_call 35; refine (checkSize_any _ _ _).mono ?_; rintro e w1 ⟨rfl, rfl⟩)
  refine bodyPost_ret (v := .tuple #[.agg #[.int .i64 0, .int .i64 0, .slice none 0 0], .int .i64 (sizeErr W H)]) (by simp [results, Tryz.results9, go_sem]) rfl ⟨rfl, ?_⟩
  repeat' (first | exact Bl.refl _ | refine Bl.drew ?_ | refine Bl.setCell ?_ (by simp) _ | refine Bl.alloc ?_ _)

end Go.Proofs.YtkipcobpnecmhaaGreatDoor


/-! page.counted, Rows, Columns, Histogram. -/
namespace Go.Proofs.YtkipcobpnecmhaaGreatDoor
open Go.RowKit

/-- A table of numbers if the error is 0, nothing else. -/
def TabRes (w : World) (err : Int) (N : Nat) (f : Nat → Int) (P : Option Addr) (m : Nat) : Prop :=
  (err = 0 → m = N ∧ Reads w 1 P m ((tabL m f).map (.int .i64))) ∧ (err ≠ 0 → m = 0 ∧ P = none)
theorem TabRes.bl {w w' : World} {err : Int} {N : Nat} {f : Nat → Int} {P : Option Addr} {m : Nat} (h : TabRes w err N f P m) (hb : Bl w w') : TabRes w' err N f P m :=
  ⟨fun e => ⟨(h.1 e).1, (h.1 e).2.bl hb⟩, h.2⟩
/-! ### Histogram -/
end Go.Proofs.YtkipcobpnecmhaaGreatDoor


/-! A region whose order is open, walked in one order, by a predicate that every operation keeps (all that lay in a world of one's choosing lies as it did). No condition. -/
namespace Go.Proofs.YtkipcobpnecmhaaGreatDoor
open Go.RowKit

section
variable {P : Program} {ops : Array Oper} {Q : Exit → Act → World → Prop} {md : Region.Mode} {S : World → Prop}

/-- In one order: 'true': what yields in every world that S holds of; 'false': whatever else. -/
def FlowS (P : Program) (ops : Array Oper) (Q : Exit → Act → World → Prop) (S : World → Prop) : List (Bool × Nat) → Act → World → Prop
  | [], a, w => Q .normal a w
  | (true, i) :: σ, a, w => ∃ o v, ops[i]? = some o ∧ YieldsIf P ops S o v a ∧ FlowS P ops Q S σ (a.put o.dst v) w
  | (false, i) :: σ, a, w => wpOp P ops Q i (fun a' w' => S w' ∧ FlowS P ops Q S σ a' w') a w

section
variable {l : List Oper} {B : World}
theorem FlowS.calm {i : Nat} {o : Oper} {σ : List (Bool × Nat)} {a : Act} {w : World} (v : Value) (ho : l[i]? = some o) (hg : o.guard = none)
    (hr : ∀ w', S w' → (execOp a.eval o).run P w' = .ok (.value v) w') (h : FlowS P l.toArray Q S σ (a.put o.dst v) w) : FlowS P l.toArray Q S ((true, i) :: σ) a w :=
  ⟨o, v, by simpa using ho, .inl ⟨by simp [Region.wanted, hg], hr⟩, h⟩
theorem FlowS.calm2 {i : Nat} {o : Oper} {σ : List (Bool × Nat)} {a : Act} {w : World} (v : Value) (a' : Act) (ho : l[i]? = some o) (hg : o.guard = none)
    (hr : ∀ w', S w' → ∀ K : Result Next → Prop, K (.ok (.value v) w') → K ((execOp a.eval o).run P w')) (ha : ∀ K : Act → Prop, K a' → K (a.put o.dst v))
    (h : FlowS P l.toArray Q S σ a' w) : FlowS P l.toArray Q S ((true, i) :: σ) a w :=
  FlowS.calm v ho hg (fun w' hb => hr w' hb (fun r => r = .ok (.value v) w') rfl) (ha (fun x => FlowS P l.toArray Q S σ x w) h)
theorem FlowS.mv {i : Nat} {d : Option Tmp} {x : Operand} {ty : TypeId} {ps : String} {af : Array Edge} {σ : List (Bool × Nat)} {a : Act} {w : World} (a' : Act) (ho : l[i]? = some ⟨d, .move x, ty, ps, af, none⟩)
    (ha : ∀ K : Act → Prop, K a' → K (a.put d (a.eval x))) (h : FlowS P l.toArray Q S σ a' w) : FlowS P l.toArray Q S ((true, i) :: σ) a w :=
  FlowS.calm (a.eval x) ho rfl (fun w' _ => by simp [execOp]) (ha (fun x => FlowS P l.toArray Q S σ x w) h)
theorem FlowS.asg {i : Nat} {d : Option Tmp} {x : Operand} {ty : TypeId} {ps : String} {af : Array Edge} {σ : List (Bool × Nat)} {a : Act} {w : World} (a' : Act) (ho : l[i]? = some ⟨d, .assign x, ty, ps, af, none⟩)
    (ha : ∀ K : Act → Prop, K a' → K (a.put d (a.eval x))) (h : FlowS P l.toArray Q S σ a' w) : FlowS P l.toArray Q S ((true, i) :: σ) a w :=
  FlowS.calm (a.eval x) ho rfl (fun w' _ => by simp [execOp]) (ha (fun x => FlowS P l.toArray Q S σ x w) h)
theorem FlowS.calmG {i : Nat} {o : Oper} {σ : List (Bool × Nat)} {a : Act} {w : World} (v : Value) (ho : l[i]? = some o) (hg : Region.wanted o (yielded l.toArray a.tmps) = true)
    (hr : ∀ w', S w' → (execOp a.eval o).run P w' = .ok (.value v) w') (h : FlowS P l.toArray Q S σ (a.put o.dst v) w) : FlowS P l.toArray Q S ((true, i) :: σ) a w :=
  ⟨o, v, by simpa using ho, .inl ⟨hg, hr⟩, h⟩
theorem FlowS.pass {i : Nat} {o : Oper} {σ : List (Bool × Nat)} {a : Act} {w : World} (ho : l[i]? = some o) (hg : Region.wanted o (yielded l.toArray a.tmps) = false)
    (h : FlowS P l.toArray Q S σ (a.put o.dst undef) w) : FlowS P l.toArray Q S ((true, i) :: σ) a w :=
  ⟨o, undef, by simpa using ho, .inr ⟨hg, rfl⟩, h⟩
theorem FlowS.move {i : Nat} {o : Oper} {σ : List (Bool × Nat)} {a : Act} {w : World} (ho : l[i]? = some o)
    (h : wpList P l.toArray (Exit.then (fun a' w' => S w' ∧ FlowS P l.toArray Q S σ a' w') Q) [o] a w) : FlowS P l.toArray Q S ((false, i) :: σ) a w := by
  have ho' : l.toArray[i]? = some o := by simpa using ho
  simp only [FlowS, wpOp, ho']
  simp only [wpList] at h
  exact h
theorem FlowS.done {a : Act} {w : World} (h : Q .normal a w) : FlowS P ops (NoPanic Q) S [] a w := h
end
end

end Go.Proofs.YtkipcobpnecmhaaGreatDoor


/-! What holds of a font whose error is 0. -/
namespace Go.Proofs.YtkipcobpnecmhaaGreatDoor
open Go.RowKit

theorem firstNZ_zero {es : List Int} (h : firstNZ es = 0) : ∀ e ∈ es, e = 0 := by
  induction es with
  | nil => intro e he; cases he
  | cons x es ih =>
    have h' : (if x = 0 then firstNZ es else x) = 0 := h
    by_cases h0 : x = 0
    · rw [if_pos h0] at h'
      intro e he
      rcases List.mem_cons.1 he with rfl | he
      · exact h0
      · exact ih h' e he
    · rw [if_neg h0] at h'
      exact absurd h' h0
theorem whenI_zero {b : Bool} {n : Int} (h : whenI b n = 0) (hn : n ≠ 0) : b = false := by
  cases b
  · rfl
  · exact absurd h hn
theorem ltrsErr_zero {ht : Int} {ls : List Ltr} : ∀ {prev : List (List UInt8)}, ltrsErr ht prev ls = 0 → ∀ l ∈ ls, textB l.text = true ∧ pageErr l.W l.H l.m = 0 ∧ l.H = ht ∧ l.W ≤ 64 := by
  induction ls with
  | nil => intro prev _ l hl; cases hl
  | cons x ls ih =>
    intro prev h l hl
    have h' : (if ltrErr ht prev x = 0 then ltrsErr ht (prev ++ [x.text]) ls else ltrErr ht prev x) = 0 := h
    by_cases h0 : ltrErr ht prev x = 0
    · rw [if_pos h0] at h'
      rcases List.mem_cons.1 hl with rfl | hl
      · have hz := firstNZ_zero h0
        have k1 := whenI_zero (hz _ (by simp : whenI (!textB l.text) 2 ∈ _)) (by decide)
        have k2 := hz (pageErr l.W l.H l.m) (by simp)
        have k3 := whenI_zero (hz (whenI (l.H != ht) 11) (by simp)) (by decide)
        have k4 := whenI_zero (hz (whenI (decide (64 < l.W)) 4) (by simp)) (by decide)
        refine ⟨by simpa using k1, k2, by simpa using k3, ?_⟩
        have := of_decide_eq_false k4
        omega
      · exact ih h' l hl
    · rw [if_neg h0] at h'
      exact absurd h' h0
theorem fontErr_zero {nm : Bool} {ht gap sp : Int} {ls : List Ltr} (h : fontErr nm ht gap sp ls = 0) : (nm = true ∧ rangeB ht gap sp = true ∧ gap < sp ∧ ls.length ≠ 0 ∧ ls.length ≤ 200 ∧ 1 ≤ ht ∧ ht ≤ 64) ∧ ∀ l ∈ ls, textB l.text = true ∧ pageErr l.W l.H l.m = 0 ∧ l.H = ht ∧ l.W ≤ 64 := by
  have h' : (if fontHead nm ht gap sp ls.length = 0 then ltrsErr ht [] ls else fontHead nm ht gap sp ls.length) = 0 := h
  by_cases h0 : fontHead nm ht gap sp ls.length = 0
  · rw [if_pos h0] at h'
    refine ⟨?_, ltrsErr_zero h'⟩
    have hz := firstNZ_zero h0
    have k1 := whenI_zero (hz (whenI (!nm) 5) (by simp)) (by decide)
    have k2 := whenI_zero (hz (whenI (!rangeB ht gap sp) 3) (by simp)) (by decide)
    have k3 := of_decide_eq_false (whenI_zero (hz (whenI (decide (sp ≤ gap)) 7) (by simp)) (by decide))
    have k4 := of_decide_eq_false (whenI_zero (hz (whenI (decide (ls.length = 0)) 9) (by simp)) (by decide))
    have k5 := of_decide_eq_false (whenI_zero (hz (whenI (decide (200 < ls.length)) 4) (by simp)) (by decide))
    have k2' : rangeB ht gap sp = true := by simpa using k2
    have k6 : inB ht 1 64 = true := by
      unfold rangeB at k2'
      simp only [Bool.and_eq_true] at k2'
      exact k2'.1
    have k7 := inB_true.1 k6
    exact ⟨by simpa using k1, k2', by omega, k4, by omega, k7.1, k7.2⟩
  · rw [if_neg h0] at h'
    exact absurd h' h0

end Go.Proofs.YtkipcobpnecmhaaGreatDoor


/-! Rows of texts in memory. -/
namespace Go.Proofs.YtkipcobpnecmhaaGreatDoor
open Go.RowKit

theorem info_str : (Tryz.prog.info? 9).map (fun i => (i.zero, i.size, i.bytes)) = some (some (.string ByteArray.empty), 1, 16) := by kernel_rfl
def strOf (l : List UInt8) : Value := .string ⟨l.toArray⟩
def strCells' (ts : List (List UInt8)) : List Value := ts.map strOf
theorem str_at {w : World} {A : Option Addr} {ts : List (List UInt8)} {i : Nat} {x : List UInt8} (h : Reads w 1 A ts.length (strCells' ts)) (hi : ts[i]? = some x) : ∃ ad, A = some ad ∧ w.cell? (ad.add i) = some (.string ⟨x.toArray⟩) := by
  have hlt := (List.getElem?_eq_some_iff.1 hi).1
  obtain ⟨ad, u, e, hu, hc⟩ := h.at_ hlt
  unfold strCells' at hu
  rw [List.getElem?_map, hi] at hu
  have hu' : strOf x = u := Option.some.inj hu
  subst hu'
  exact ⟨ad, e, hc⟩

end Go.Proofs.YtkipcobpnecmhaaGreatDoor


/-! boxes in pages, Cut and Ink. -/
namespace Go.Proofs.YtkipcobpnecmhaaGreatDoor
open Go.RowKit

/-! ### boxes -/
/-! ### Cut -/
def cutF (bs : List Bool) (W X Y x y : Nat) : Bool := pix bs W (X + x) (Y + y)
/-! ### Ink -/
end Go.Proofs.YtkipcobpnecmhaaGreatDoor


/-! Pasting one page on another one: in the program and in the reference. -/
namespace Go.Proofs.YtkipcobpnecmhaaGreatDoor
open Go.RowKit

/-! ### plain -/
def isApart (bW bH cW cH : Nat) (x y : Int) : Bool := decide (x ≤ -(cW : Int)) || decide ((bW : Int) ≤ x) || decide (y ≤ -(cH : Int)) || decide ((bH : Int) ≤ y)
def pasteF (bs cs : List Bool) (bW bH cW cH : Nat) (x y : Int) (u v : Nat) : Bool := pix bs bW u v || (!isApart bW bH cW cH x y && atI cs cW cH ((u : Int) - x) ((v : Int) - y))
theorem isApart_false {bW bH cW cH : Nat} {x y : Int} (h : isApart bW bH cW cH x y = false) : -(cW : Int) < x ∧ x < bW ∧ -(cH : Int) < y ∧ y < bH := by
  simp [isApart] at h; omega
theorem pasteF_pix {bs cs : List Bool} {bW bH cW cH : Nat} {x y : Int} {u v : Nat} (h : pix bs bW u v = true) : pasteF bs cs bW bH cW cH x y u v = true := by simp [pasteF, h]
theorem pasteF_apart {bs cs : List Bool} {bW bH cW cH : Nat} {x y : Int} {u v : Nat} (h : pix bs bW u v = false) (h2 : isApart bW bH cW cH x y = true) : pasteF bs cs bW bH cW cH x y u v = false := by simp [pasteF, h, h2]
theorem pasteF_at {bs cs : List Bool} {bW bH cW cH : Nat} {x y : Int} {u v : Nat} (h : pix bs bW u v = false) (h2 : isApart bW bH cW cH x y = false) : pasteF bs cs bW bH cW cH x y u v = atI cs cW cH ((u : Int) - x) ((v : Int) - y) := by simp [pasteF, h, h2]

/-! ### the program's closure -/
set_option maxRecDepth 100000 in
set_option maxHeartbeats 2000000 in
theorem paste1_any (pb pa px py pc : Nat) (bW bH cW cH : Nat) (A C : Option Addr) (bc cc : Nat) (bs cs : List Bool) (x y : Int) (u v : Nat) (w : World)
    (h1 : Blk w pb 28 #[.int .i64 bW, .int .i64 bH, .slice A (bW * bH) bc]) (h2 : Blk w pa 4 #[.bool (isApart bW bH cW cH x y)]) (h3 : Blk w px 3 #[.int .i64 x]) (h4 : Blk w py 3 #[.int .i64 y])
    (h5 : Blk w pc 28 #[.int .i64 cW, .int .i64 cH, .slice C (cW * cH) cc])
    (hA : Reads w 1 A (bW * bH) (bs.map .bool)) (hC : Reads w 1 C (cW * cH) (cs.map .bool)) (b1 : bW ≤ 4000) (b2 : bH ≤ 4000) (b3 : cW ≤ 4000) (b4 : cH ≤ 4000) (hu : u < bW) (hv : v < bH) :
    Calls Tryz.prog 38 #[.int .i64 u, .int .i64 v, .pointer (some ⟨pb, 0, none⟩), .pointer (some ⟨pa, 0, none⟩), .pointer (some ⟨px, 0, none⟩), .pointer (some ⟨py, 0, none⟩), .pointer (some ⟨pc, 0, none⟩)] w
      fun e w' => e = .returned (.bool (pasteF bs cs bW bH cW cH x y u v)) ∧ Bl w w' := by
  have k1 := h1.all3
  have k2 := h2.all1
  have k3 := h3.all1
  have k4 := h4.all1
  have k5 := h5.all3
  obtain ⟨ad, rfl, hc⟩ := hA.place hu hv
  have hk := place_lt hu hv
  obtain ⟨k, hkk⟩ : ∃ k, k = v * bW + u := ⟨_, rfl⟩
  rw [← hkk] at hc hk
  have ek : (v : Int) * (bW : Int) + (u : Int) = (k : Int) := by rw [hkk]; simp
  have hkl : (k : Int) < (bW : Int) * (bH : Int) := by have := Int.natCast_mul bW bH; omega
  have hq : (0 : Int) ≤ (v : Int) * (bW : Int) ∧ (v : Int) * (bW : Int) ≤ 16000000 := by
    have h5 := Int.natCast_mul v bW
    have h6 := Nat.mul_le_mul (show v ≤ 4000 by omega) b1
    omega
  have Hkk := Lib.hid hkk
  clear hkk h1 h2 h3 h4 h5 hA
  cases hp : pix bs bW u v
  case true =>
    have hf := pasteF_pix (cs := cs) (bH := bH) (cW := cW) (cH := cH) (x := x) (y := y) hp
    rw [hp] at hc
    have Hf := Lib.hid hf; have Hp := Lib.hid hp
    clear hf hp hC
    go_enter Tryz.func38, Tryz.ntmps38
    go_wp2
    go_ret
    exact ⟨ret_bool Hf.out.symm, Bl.refl _⟩
  case false =>
    rw [hp] at hc
    cases ha : isApart bW bH cW cH x y
    case true =>
      have hf := pasteF_apart (cs := cs) hp ha
      rw [ha] at k2
      have Hf := Lib.hid hf; have Hp := Lib.hid hp; have Ha := Lib.hid ha
      clear hf hp ha hC
      go_enter Tryz.func38, Tryz.ntmps38
      go_wp2
      go_ret
      exact ⟨ret_bool Hf.out.symm, Bl.refl _⟩
    case false =>
      have hf := pasteF_at (cs := cs) hp ha
      obtain ⟨r1, r2, r3, r4⟩ := isApart_false ha
      rw [ha] at k2
      have Hf := Lib.hid hf; have Hp := Lib.hid hp; have Ha := Lib.hid ha
      clear hf hp ha
      by_cases c1 : 0 ≤ (u : Int) - x ∧ (u : Int) - x < cW ∧ 0 ≤ (v : Int) - y ∧ (v : Int) - y < cH
      · obtain ⟨c1, c2, c3, c4⟩ := c1
        obtain ⟨X, hX⟩ := Int.eq_ofNat_of_zero_le c1
        obtain ⟨Y, hY⟩ := Int.eq_ofNat_of_zero_le c3
        have hXl : X < cW := by omega
        have hYl : Y < cH := by omega
        have hat := atI_in cs cW cH X Y hXl hYl
        rw [← hX, ← hY] at hat
        obtain ⟨cd, rfl, hd⟩ := hC.place hXl hYl
        have hj := place_lt hXl hYl
        obtain ⟨j, hjj⟩ : ∃ j, j = Y * cW + X := ⟨_, rfl⟩
        rw [← hjj] at hd hj
        have ej : ((v : Int) - y) * (cW : Int) + ((u : Int) - x) = (j : Int) := by rw [hjj, hX, hY]; simp
        have hjl : (j : Int) < (cW : Int) * (cH : Int) := by have := Int.natCast_mul cW cH; omega
        have hqj : (0 : Int) ≤ ((v : Int) - y) * (cW : Int) ∧ ((v : Int) - y) * (cW : Int) ≤ 16000000 := by
          have h5 := Int.natCast_mul Y cW
          have h6 := Nat.mul_le_mul (show Y ≤ 4000 by omega) b3
          rw [hY]; omega
        have Hat := Lib.hid hat; have HX := Lib.hid hX; have HY := Lib.hid hY; have Hjj := Lib.hid hjj
        clear hat hX hY hjj hC
        go_enter Tryz.func38, Tryz.ntmps38
        go_wp2_with fail
        refine wp_region_flow [(true, 0), (true, 1), (true, 2), (true, 3), (true, 4), (true, 5), (true, 6), (true, 7)] (fun _ => false) (by kernel_rfl) (by kernel_rfl) (by kernel_rfl) (by kernel_rfl) ?_
        iterate 1
          apply Flow.mv _ rfl
          · intro K' hK'
            simp only [Act.put, Act.eval, List.setIfInBounds_toArray, List.set_cons_zero, List.set_cons_succ, arr_getD, List.getD_cons_zero]
            exact hK'
        iterate 1
          apply Flow.calm2 _ _ rfl rfl
          · intro w' hb' K' hK'
            obtain ⟨hc', hf'⟩ := hb'.rule
            go_simp
            try go_ints
            exact hK'
          · intro K' hK'
            simp only [Act.put, List.setIfInBounds_toArray, List.set_cons_zero, List.set_cons_succ]
            exact hK'
        iterate 1
          apply Flow.calm2 _ _ rfl rfl
          · intro w' hb' K' hK'
            obtain ⟨hc', hf'⟩ := hb'.rule
            go_simp
            try go_ints
            exact hK'
          · intro K' hK'
            simp only [Act.put, List.setIfInBounds_toArray, List.set_cons_zero, List.set_cons_succ]
            exact hK'
        iterate 1
          apply Flow.mv _ rfl
          · intro K' hK'
            simp only [Act.put, Act.eval, List.setIfInBounds_toArray, List.set_cons_zero, List.set_cons_succ, arr_getD, List.getD_cons_zero, List.getD_cons_succ]
            exact hK'
        iterate 1
          apply Flow.calm2 _ _ rfl rfl
          · intro w' hb' K' hK'
            obtain ⟨hc', hf'⟩ := hb'.rule
            go_simp
            try go_ints
            exact hK'
          · intro K' hK'
            simp only [Act.put, List.setIfInBounds_toArray, List.set_cons_zero, List.set_cons_succ]
            exact hK'
        iterate 1
          apply Flow.calm2 _ _ rfl rfl
          · intro w' hb' K' hK'
            obtain ⟨hc', hf'⟩ := hb'.rule
            go_simp
            try go_ints
            exact hK'
          · intro K' hK'
            simp only [Act.put, List.setIfInBounds_toArray, List.set_cons_zero, List.set_cons_succ]
            exact hK'
        iterate 2
          apply Flow.asg _ rfl
          · intro K' hK'
            simp only [Act.put, Act.eval, List.setIfInBounds_toArray, List.set_cons_zero, List.set_cons_succ, arr_getD, List.getD_cons_zero, List.getD_cons_succ]
            exact hK'
        refine Flow.done ?_
        go_wp2_with fail
        go_ret
        exact ⟨ret_bool (by rw [Hf.out, Hat.out]), (Bl.refl _).drew⟩
      · have hat := atI_out cs cW cH ((u : Int) - x) ((v : Int) - y) c1
        have Hat := Lib.hid hat
        clear hat hC
        have hcase : (u : Int) - x < 0 ∨ (0 ≤ (u : Int) - x ∧ (cW : Int) ≤ (u : Int) - x) ∨ (0 ≤ (u : Int) - x ∧ (u : Int) - x < cW ∧ (v : Int) - y < 0) ∨ (0 ≤ (u : Int) - x ∧ (u : Int) - x < cW ∧ 0 ≤ (v : Int) - y ∧ (cH : Int) ≤ (v : Int) - y) := by omega
        clear c1
        rcases hcase with d | ⟨d, d'⟩ | ⟨d, d', d''⟩ | ⟨d, d', d'', d'''⟩
        all_goals
          go_enter Tryz.func38, Tryz.ntmps38
          go_wp2_with fail
          refine wp_region_flow [(true, 0), (true, 1), (true, 2), (true, 3), (true, 4), (true, 5), (true, 6), (true, 7)] (fun _ => false) (by kernel_rfl) (by kernel_rfl) (by kernel_rfl) (by kernel_rfl) ?_
          iterate 1
            apply Flow.mv _ rfl
            · intro K' hK'
              simp only [Act.put, Act.eval, List.setIfInBounds_toArray, List.set_cons_zero, List.set_cons_succ, arr_getD, List.getD_cons_zero]
              exact hK'
          iterate 1
            apply Flow.calm2 _ _ rfl rfl
            · intro w' hb' K' hK'
              obtain ⟨hc', hf'⟩ := hb'.rule
              go_simp
              try go_ints
              exact hK'
            · intro K' hK'
              simp only [Act.put, List.setIfInBounds_toArray, List.set_cons_zero, List.set_cons_succ]
              exact hK'
          iterate 1
            apply Flow.calm2 _ _ rfl rfl
            · intro w' hb' K' hK'
              obtain ⟨hc', hf'⟩ := hb'.rule
              go_simp
              try go_ints
              exact hK'
            · intro K' hK'
              simp only [Act.put, List.setIfInBounds_toArray, List.set_cons_zero, List.set_cons_succ]
              exact hK'
          iterate 1
            apply Flow.mv _ rfl
            · intro K' hK'
              simp only [Act.put, Act.eval, List.setIfInBounds_toArray, List.set_cons_zero, List.set_cons_succ, arr_getD, List.getD_cons_zero, List.getD_cons_succ]
              exact hK'
          iterate 1
            apply Flow.calm2 _ _ rfl rfl
            · intro w' hb' K' hK'
              obtain ⟨hc', hf'⟩ := hb'.rule
              go_simp
              try go_ints
              exact hK'
            · intro K' hK'
              simp only [Act.put, List.setIfInBounds_toArray, List.set_cons_zero, List.set_cons_succ]
              exact hK'
          iterate 1
            apply Flow.calm2 _ _ rfl rfl
            · intro w' hb' K' hK'
              obtain ⟨hc', hf'⟩ := hb'.rule
              go_simp
              try go_ints
              exact hK'
            · intro K' hK'
              simp only [Act.put, List.setIfInBounds_toArray, List.set_cons_zero, List.set_cons_succ]
              exact hK'
          iterate 2
            apply Flow.asg _ rfl
            · intro K' hK'
              simp only [Act.put, Act.eval, List.setIfInBounds_toArray, List.set_cons_zero, List.set_cons_succ, arr_getD, List.getD_cons_zero, List.getD_cons_succ]
              exact hK'
          refine Flow.done ?_
          go_wp2_with fail
          go_ret
          exact ⟨ret_bool (by rw [Hf.out, Hat.out]), (Bl.refl _).drew⟩

end Go.Proofs.YtkipcobpnecmhaaGreatDoor


/-! The closures that read one place, or reckon it. -/
namespace Go.Proofs.YtkipcobpnecmhaaGreatDoor
open Go.RowKit

set_option maxRecDepth 100000 in
set_option maxHeartbeats 400000 in
theorem turned1_any (ph : Nat) (pw : Nat) (W H : Nat) (x y : Nat) (w : World) (hph : Blk w ph 3 #[.int .i64 H]) (hpw : Blk w pw 3 #[.int .i64 W]) (hW : W ≤ 4000) (hH : H ≤ 4000) (hx : x < H) (hy : y < W) :
    Calls Tryz.prog 69 #[.int .i64 x, .int .i64 y, .pointer (some ⟨ph, 0, none⟩), .pointer (some ⟨pw, 0, none⟩)] w fun e w' => e = .returned (.int .i64 (((H - 1 - x) * W + y : Nat) : Int)) ∧ Bl w w' := by
  have kph := hph.all1
  have kpw := hpw.all1
  have hkx : y < W := by omega
  have hky : H - 1 - x < H := by omega
  have hk := place_lt hkx hky
  obtain ⟨k, hkk⟩ : ∃ k, k = (H - 1 - x) * W + (y) := ⟨_, rfl⟩
  rw [← hkk] at hk
  obtain ⟨j, hj⟩ : ∃ j, j = H - 1 - x := ⟨_, rfl⟩
  rw [← hj] at hkk hky
  have hjw := Int.natCast_mul j W
  have hq : (0 : Int) ≤ (j : Int) * (W : Int) ∧ (j : Int) * (W : Int) ≤ 16000000 := by
    have h6 := Nat.mul_le_mul (show j ≤ 4000 by omega) hW
    omega
  have ej : (H : Int) - 1 - (x : Int) = (j : Int) := by omega
  have ek : (j : Int) * (W : Int) + (y : Int) = (k : Int) := by rw [hkk]; omega
  have Hk := Lib.hid hkk
  have Hj := Lib.hid hj
  clear hkk hjw hj
  go_enter Tryz.func69, Tryz.ntmps69
  go_wp2_with fail
  go_ret
  exact ⟨ret_int (by rw [Hk.out, Hj.out]), Bl.refl _⟩

set_option maxRecDepth 100000 in
set_option maxHeartbeats 400000 in
theorem turned2_any (ph : Nat) (pw : Nat) (W H : Nat) (x y : Nat) (w : World) (hph : Blk w ph 3 #[.int .i64 H]) (hpw : Blk w pw 3 #[.int .i64 W]) (hW : W ≤ 4000) (hH : H ≤ 4000) (hx : x < W) (hy : y < H) :
    Calls Tryz.prog 70 #[.int .i64 x, .int .i64 y, .pointer (some ⟨ph, 0, none⟩), .pointer (some ⟨pw, 0, none⟩)] w fun e w' => e = .returned (.int .i64 (((H - 1 - y) * W + (W - 1 - x) : Nat) : Int)) ∧ Bl w w' := by
  have kph := hph.all1
  have kpw := hpw.all1
  have hkx : W - 1 - x < W := by omega
  have hky : H - 1 - y < H := by omega
  have hk := place_lt hkx hky
  obtain ⟨k, hkk⟩ : ∃ k, k = (H - 1 - y) * W + (W - 1 - x) := ⟨_, rfl⟩
  rw [← hkk] at hk
  obtain ⟨j, hj⟩ : ∃ j, j = H - 1 - y := ⟨_, rfl⟩
  rw [← hj] at hkk hky
  have hjw := Int.natCast_mul j W
  have hq : (0 : Int) ≤ (j : Int) * (W : Int) ∧ (j : Int) * (W : Int) ≤ 16000000 := by
    have h6 := Nat.mul_le_mul (show j ≤ 4000 by omega) hW
    omega
  have ej : (H : Int) - 1 - (y : Int) = (j : Int) := by omega
  have ek : (j : Int) * (W : Int) + (W : Int) - 1 - (x : Int) = (k : Int) := by rw [hkk]; omega
  have Hk := Lib.hid hkk
  have Hj := Lib.hid hj
  clear hkk hjw hj
  go_enter Tryz.func70, Tryz.ntmps70
  go_wp2_with fail
  go_ret
  exact ⟨ret_int (by rw [Hk.out, Hj.out]), Bl.refl _⟩

set_option maxRecDepth 100000 in
set_option maxHeartbeats 400000 in
theorem turned3_any (pw : Nat) (W H : Nat) (x y : Nat) (w : World) (hpw : Blk w pw 3 #[.int .i64 W]) (hW : W ≤ 4000) (hH : H ≤ 4000) (hx : x < H) (hy : y < W) :
    Calls Tryz.prog 71 #[.int .i64 x, .int .i64 y, .pointer (some ⟨pw, 0, none⟩)] w fun e w' => e = .returned (.int .i64 ((x * W + (W - 1 - y) : Nat) : Int)) ∧ Bl w w' := by
  have kpw := hpw.all1
  have hkx : W - 1 - y < W := by omega
  have hky : x < H := by omega
  have hk := place_lt hkx hky
  obtain ⟨k, hkk⟩ : ∃ k, k = (x) * W + (W - 1 - y) := ⟨_, rfl⟩
  rw [← hkk] at hk
  obtain ⟨j, hj⟩ : ∃ j, j = x := ⟨_, rfl⟩
  rw [← hj] at hkk hky
  have hjw := Int.natCast_mul j W
  have hq : (0 : Int) ≤ (j : Int) * (W : Int) ∧ (j : Int) * (W : Int) ≤ 16000000 := by
    have h6 := Nat.mul_le_mul (show j ≤ 4000 by omega) hW
    omega
  obtain rfl : x = j := hj.symm
  have ek : (x : Int) * (W : Int) + (W : Int) - 1 - (y : Int) = (k : Int) := by rw [hkk]; omega
  have Hk := Lib.hid hkk
  clear hkk hjw
  go_enter Tryz.func71, Tryz.ntmps71
  go_wp2_with fail
  go_ret
  exact ⟨ret_int (by rw [Hk.out]; first | done | simp), Bl.refl _⟩

set_option maxRecDepth 100000 in
set_option maxHeartbeats 400000 in
theorem turned4_any (pw : Nat) (W H : Nat) (x y : Nat) (w : World) (hpw : Blk w pw 3 #[.int .i64 W]) (hW : W ≤ 4000) (hH : H ≤ 4000) (hx : x < W) (hy : y < H) :
    Calls Tryz.prog 72 #[.int .i64 x, .int .i64 y, .pointer (some ⟨pw, 0, none⟩)] w fun e w' => e = .returned (.int .i64 ((y * W + x : Nat) : Int)) ∧ Bl w w' := by
  have kpw := hpw.all1
  have hkx : x < W := by omega
  have hky : y < H := by omega
  have hk := place_lt hkx hky
  obtain ⟨k, hkk⟩ : ∃ k, k = (y) * W + (x) := ⟨_, rfl⟩
  rw [← hkk] at hk
  obtain ⟨j, hj⟩ : ∃ j, j = y := ⟨_, rfl⟩
  rw [← hj] at hkk hky
  have hjw := Int.natCast_mul j W
  have hq : (0 : Int) ≤ (j : Int) * (W : Int) ∧ (j : Int) * (W : Int) ≤ 16000000 := by
    have h6 := Nat.mul_le_mul (show j ≤ 4000 by omega) hW
    omega
  obtain rfl : y = j := hj.symm
  have ek : (y : Int) * (W : Int) + (x : Int) = (k : Int) := by rw [hkk]; omega
  have Hk := Lib.hid hkk
  clear hkk hjw
  go_enter Tryz.func72, Tryz.ntmps72
  go_wp2_with fail
  go_ret
  exact ⟨ret_int (by rw [Hk.out]; first | done | simp), Bl.refl _⟩

end Go.Proofs.YtkipcobpnecmhaaGreatDoor


/-! page.CutGray, slices.Contains of bools, page.Blank whatever comes. -/
namespace Go.Proofs.YtkipcobpnecmhaaGreatDoor
open Go.RowKit

/-! ### slices.Contains of bools -/
/-! ### page.Blank -/
theorem blank_any (W H : Int) (w : World) :
    Calls Tryz.prog 9 #[.int .i64 W, .int .i64 H] w fun e w' => ∃ a b R m d, e = .returned (.tuple #[.agg #[.int .i64 a, .int .i64 b, .slice R m d], .int .i64 (sizeErr W H)]) ∧
      (sizeErr W H ≠ 0 → a = 0 ∧ b = 0 ∧ R = none ∧ m = 0 ∧ d = 0) ∧ (sizeErr W H = 0 → a = W ∧ b = H ∧ (m : Int) = W * H ∧ Reads w' 1 R m ((List.replicate m false).map .bool)) ∧ Bl w w' := by
  by_cases he : sizeErr W H = 0
  · have hz := sizeErr_zero he
    obtain ⟨W, rfl⟩ := Int.eq_ofNat_of_zero_le (show 0 ≤ W by omega)
    obtain ⟨H, rfl⟩ := Int.eq_ofNat_of_zero_le (show 0 ≤ H by omega)
    refine (blank_ok W H w he).mono ?_
    rintro e w' ⟨g, rfl, hg, hb⟩
    refine ⟨W, H, some ⟨g, 0, none⟩, W * H, W * H, by rw [he], fun h => absurd he h, fun _ => ⟨rfl, rfl, by simp, ?_⟩, hb⟩
    have := hg.reads (W * H) 1 (by simp)
    simpa using this
  · refine (blank_bad W H w he).mono ?_
    rintro e w' ⟨rfl, hb⟩
    exact ⟨0, 0, none, 0, 0, rfl, fun _ => ⟨rfl, rfl, rfl, rfl, rfl⟩, fun h => absurd h he, hb⟩

end Go.Proofs.YtkipcobpnecmhaaGreatDoor
