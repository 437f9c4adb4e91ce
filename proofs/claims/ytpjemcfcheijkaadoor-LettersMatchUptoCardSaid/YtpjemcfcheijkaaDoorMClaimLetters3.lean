/- A region in which two operations that make memory may come up in either order: reads and reckonings first, then both ways. No condition. -/
import Derived.Test.YtpjemcfcheijkaaDoorMClaimLetters1
import Derived.Test.YtpjemcfcheijkaaDoorMClaimLetters2
import Derived.Test.YtpjemcfcheijkaaDoorMClaimLetters0

namespace Go.Proofs.YtpjemcfcheijkaaDoor
open Go.RowKit

theorem ownsRow_set {w : World} {base : Nat} {e : TypeId} {size n g cap : Nat} {xs : List Value} (h : w.ownsRow base e size (.slice (some ⟨g, 0, none⟩) n cap) n xs) (j : Nat) (u : Value) : (w.setCell ⟨g, j, none⟩ u).ownsRow base e size (.slice (some ⟨g, 0, none⟩) n cap) n (xs.set j u) := by
  refine ⟨by rw [List.length_set]; exact h.1, ?_⟩
  rcases h.2 with ⟨hv, _⟩ | ⟨g', cap', cur, hv, hb, hg, hn, hc, hs, ht⟩
  · cases hv
  · injection hv with h1 h2 h3
    injection h1 with h1
    injection h1 with h1
    subst h1
    subst h3
    refine .inr ⟨g, cap, cur.setIfInBounds j u, rfl, hb, ?_, hn, hc, by simpa using hs, ?_⟩
    · simp [World.setCell, Array.getElem?_modify, hg]
    · rw [Array.toList_setIfInBounds, List.take_set, ht]
theorem add_flat (g i : Nat) : (⟨g, 0, none⟩ : Addr).add i = ⟨g, i, none⟩ := by unfold Addr.add; split <;> simp_all
theorem Reads.lt {w : World} {A : Option Addr} {n : Nat} {xs : List Value} (h : Reads w 1 A n xs) : ∀ a, A = some a → 0 < n → a.block < w.heap.size := fun a ha hn => by
  obtain ⟨ad, u, e, -, hc⟩ := h.at_ hn
  rw [ha] at e
  injection e with e
  subst e
  have := World.block_lt_of_cell? w _ hc
  rwa [block_of_add] at this
theorem Reads.far {w : World} {size n : Nat} {A : Option Addr} {xs : List Value} (h : Reads w size A n xs) {p : Addr} (hn : ∀ a, A = some a → 0 < n → a.block ≠ p.block) (u : Value) : Reads (w.setCell p u) size A n xs :=
  ⟨h.1, fun hk => by
    obtain ⟨ad, e, hc⟩ := h.2 hk
    exact ⟨ad, e, fun j x hx => by rw [World.cell?_setCell_other w p _ u (fun e' => by have h1 := hn ad e hk; have h2 := congrArg Addr.block e'; rw [block_of_add] at h2; omega)]; exact hc j x hx⟩⟩
theorem Reads.grown {w w' : World} {n : Nat} {A : Option Addr} {xs : List Value} {row : Option Nat} (h : Reads w 1 A n xs) (hb : w.grownBy w' row) (hn : ∀ a, A = some a → 0 < n → some a.block ≠ row) : Reads w' 1 A n xs :=
  ⟨h.1, fun hk => by
    obtain ⟨ad, e, hc⟩ := h.2 hk
    refine ⟨ad, e, fun j x hx => ?_⟩
    rw [World.cell?_of_block (hb.block _ (by rw [block_of_add]; exact h.lt ad e hk) (by rw [block_of_add]; exact hn ad e hk))]
    exact hc j x hx⟩
theorem own_some {w : World} {base : Nat} {e : TypeId} {size n : Nat} {v : Value} {xs : List Value} (h : w.ownsRow base e size v n xs) (hn : 0 < n) : ∃ g cap, v = .slice (some ⟨g, 0, none⟩) n cap ∧ base ≤ g ∧ n ≤ cap := by
  rcases h.2 with ⟨-, h0⟩ | ⟨g, cap, cur, rfl, hb, -, hc, -⟩
  · omega
  · exact ⟨g, cap, rfl, hb, hc⟩
theorem own_lt {w : World} {base : Nat} {e : TypeId} {size n g cap : Nat} {xs : List Value} (h : w.ownsRow base e size (.slice (some ⟨g, 0, none⟩) n cap) n xs) : g < w.heap.size := by
  rcases h.2 with ⟨hv, -⟩ | ⟨g', cap', cur, hv, -, hg, -⟩
  · cases hv
  · injection hv with h1 h2 h3
    injection h1 with h1
    injection h1 with h1
    subst h1
    exact (Array.getElem?_eq_some_iff.1 hg).1
theorem own_blk {w : World} {base : Nat} {e : TypeId} {size n g cap : Nat} {xs : List Value} (h : w.ownsRow base e size (.slice (some ⟨g, 0, none⟩) n cap) n xs) : (∀ j, j < n * size → ∃ v, w.cell? ⟨g, j, none⟩ = some v) ∧ ∀ j, w.frozen? ⟨g, j, none⟩ = false := by
  rcases h.2 with ⟨hv, -⟩ | ⟨g', cap', cur, hv, -, hg, hn, -, hs, -⟩
  · cases hv
  · injection hv with h1 h2 h3
    injection h1 with h1
    injection h1 with h1
    subst h1
    subst h3
    have hb : Blk w g e cur := hg
    refine ⟨fun j hj => ?_, hb.frozen⟩
    have hlt : j < cur.size := by have := Nat.mul_le_mul_right size hn; omega
    exact ⟨cur[j], by rw [hb.cell]; exact Array.getElem?_eq_getElem hlt⟩
theorem page_ok {W H : Nat} (h1 : 1 ≤ W) (h2 : W ≤ 4000) (h3 : 1 ≤ H) (h4 : H ≤ 4000) (h5 : W * H ≤ 1048576) : pageErr (W : Int) (H : Int) (W * H) = 0 := by
  have e := Int.natCast_mul W H
  have hs : sizeErr (W : Int) (H : Int) = 0 := by
    unfold sizeErr
    rw [if_pos (by omega), if_neg (by omega)]
  unfold pageErr
  rw [if_pos hs, if_pos (by omega)]

end Go.Proofs.YtpjemcfcheijkaaDoor


/-! The plain law of the pieces of a line: columns with ink that lie side by side. -/
namespace Go.Proofs.YtpjemcfcheijkaaDoor
open Go.RowKit

/-- A piece: its first column, and how many. -/
abbrev Piece := Nat × Nat
def wider : List Piece → List Piece
  | [] => []
  | [p] => [(p.1, p.2 + 1)]
  | p :: q :: l => p :: wider (q :: l)
theorem wider_append (l : List Piece) (p : Piece) : wider (l ++ [p]) = l ++ [(p.1, p.2 + 1)] := by
  induction l with
  | nil => rfl
  | cons x l ih =>
    cases l with
    | nil => rfl
    | cons y l => show x :: wider (y :: l ++ [p]) = _; rw [ih]; rfl
/-- Is the column ahead inked? -/
def ahead (f : Nat → Nat) : Nat → Bool
  | 0 => false
  | k + 1 => decide (0 < f k)
def piecesTo (f : Nat → Nat) : Nat → List Piece
  | 0 => []
  | k + 1 => if f k = 0 then piecesTo f k else if ahead f k = true then wider (piecesTo f k) else piecesTo f k ++ [(k, 1)]
/-- Where the last piece ends. -/
theorem pieces_last (f : Nat → Nat) : ∀ k, (ahead f k = true → ∃ l p, piecesTo f k = l ++ [p] ∧ p.1 + p.2 = k) ∧ (ahead f k = false → piecesTo f k = [] ∨ ∃ l p, piecesTo f k = l ++ [p] ∧ p.1 + p.2 < k)
  | 0 => ⟨(fun h => by cases h), fun _ => Or.inl rfl⟩
  | k + 1 => by
    have ih := pieces_last f k
    constructor
    · intro h
      have hf : 0 < f k := of_decide_eq_true h
      show ∃ l p, (if f k = 0 then piecesTo f k else if ahead f k = true then wider (piecesTo f k) else piecesTo f k ++ [(k, 1)]) = l ++ [p] ∧ p.1 + p.2 = k + 1
      rw [if_neg (by omega)]
      cases ha : ahead f k
      · rw [if_neg (by simp)]
        exact ⟨_, _, rfl, rfl⟩
      · obtain ⟨l, p, e, hp⟩ := ih.1 ha
        rw [if_pos rfl, e, wider_append]
        exact ⟨l, _, rfl, by show p.1 + (p.2 + 1) = k + 1; omega⟩
    · intro h
      have hf : f k = 0 := by have : ¬ 0 < f k := of_decide_eq_false h; omega
      show (if f k = 0 then piecesTo f k else _) = [] ∨ ∃ l p, (if f k = 0 then piecesTo f k else _) = l ++ [p] ∧ p.1 + p.2 < k + 1
      rw [if_pos hf]
      cases ha : ahead f k
      · rcases ih.2 ha with h2 | ⟨l, p, e, hp⟩
        · exact .inl h2
        · exact .inr ⟨l, p, e, by omega⟩
      · obtain ⟨l, p, e, hp⟩ := ih.1 ha
        exact .inr ⟨l, p, e, by omega⟩
theorem wider_length : ∀ l : List Piece, (wider l).length = l.length
  | [] => rfl
  | [_] => rfl
  | _ :: q :: l => by show (wider (q :: l)).length + 1 = _; rw [wider_length (q :: l)]; rfl
theorem pieces_len (f : Nat → Nat) : ∀ k, (piecesTo f k).length ≤ k
  | 0 => Nat.le_refl _
  | k + 1 => by
    have ih := pieces_len f k
    show (if f k = 0 then piecesTo f k else if ahead f k = true then wider (piecesTo f k) else piecesTo f k ++ [(k, 1)]).length ≤ k + 1
    split
    · omega
    · split
      · rw [wider_length]; omega
      · rw [List.length_append]; simp; exact ih
/-- A piece lies within what was looked at, and is not empty. -/
theorem pieces_in (f : Nat → Nat) : ∀ k, ∀ p ∈ piecesTo f k, 1 ≤ p.2 ∧ p.1 + p.2 ≤ k
  | 0 => fun p hp => by cases hp
  | k + 1 => by
    have ih := pieces_in f k
    intro p hp
    change p ∈ (if f k = 0 then piecesTo f k else if ahead f k = true then wider (piecesTo f k) else piecesTo f k ++ [(k, 1)]) at hp
    split at hp
    · have := ih p hp; omega
    · split at hp
      · rename_i ha
        obtain ⟨l, q, e, hq⟩ := (pieces_last f k).1 ha
        rw [e, wider_append] at hp
        have hq2 := ih q (by rw [e]; simp)
        rcases List.mem_append.1 hp with h | h
        · have := ih p (by rw [e]; exact List.mem_append_left _ h); omega
        · rw [List.mem_singleton.1 h]
          show 1 ≤ q.2 + 1 ∧ q.1 + (q.2 + 1) ≤ k + 1
          omega
      · rcases List.mem_append.1 hp with h | h
        · have := ih p h; omega
        · rw [List.mem_singleton.1 h]
          show 1 ≤ 1 ∧ k + 1 ≤ k + 1
          omega
/-- The boxes of pieces, flat. -/
def boxCells (H : Nat) (l : List Piece) : List Value := l.flatMap fun p => [.int .i64 p.1, .int .i64 0, .int .i64 p.2, .int .i64 H]
theorem boxCells_append (H : Nat) (a b : List Piece) : boxCells H (a ++ b) = boxCells H a ++ boxCells H b := by unfold boxCells; rw [List.flatMap_append]
theorem boxCells_len (H : Nat) (l : List Piece) : (boxCells H l).length = l.length * 4 := by
  unfold boxCells
  induction l with
  | nil => rfl
  | cons x l ih =>
    rw [List.flatMap_cons, List.length_append, ih, List.length_cons]
    show 4 + l.length * 4 = (l.length + 1) * 4
    omega
theorem boxCells_at {H : Nat} {l : List Piece} {i : Nat} {p : Piece} (h : l[i]? = some p) (j : Nat) (hj : j < 4) : (boxCells H l)[i * 4 + j]? = ([.int .i64 p.1, .int .i64 0, .int .i64 p.2, .int .i64 H] : List Value)[j]? := by
  induction l generalizing i with
  | nil => simp at h
  | cons x l ih =>
    unfold boxCells
    rw [List.flatMap_cons]
    rcases i with _ | i
    · simp only [List.getElem?_cons_zero, Option.some.injEq] at h
      subst h
      rw [List.getElem?_append_left (by show 0 * 4 + j < 4; omega)]
      simp
    · rw [List.getElem?_append_right (by show 4 ≤ (i + 1) * 4 + j; omega)]
      have e : (i + 1) * 4 + j - 4 = i * 4 + j := by omega
      show (boxCells H l)[(i + 1) * 4 + j - 4]? = _
      rw [e]
      exact ih (by simpa using h)
/-- The last box made wider: one cell is set. -/
theorem boxCells_wider (H : Nat) (l : List Piece) (p : Piece) : (boxCells H (l ++ [p])).set (l.length * 4 + 2) (.int .i64 ((p.2 : Int) + 1)) = boxCells H (wider (l ++ [p])) := by
  rw [wider_append, boxCells_append, boxCells_append]
  rw [List.set_append_right _ _ (by rw [boxCells_len]; omega), boxCells_len]
  rw [show l.length * 4 + 2 - l.length * 4 = 2 by omega]
  rfl

end Go.Proofs.YtpjemcfcheijkaaDoor


/-! A page and an error: both outcomes under one roof; pages as grids. -/
namespace Go.Proofs.YtpjemcfcheijkaaDoor
open Go.RowKit

/-- The page that a function answers with its error: made anew, or empty. -/
def Res (B : Nat) (w : World) (err : Int) (W H : Nat) (cells : List Value) (a b : Int) (R : Option Addr) (m c : Nat) : Prop :=
  (err = 0 → NPage B w (.agg #[.int .i64 a, .int .i64 b, .slice R m c]) W H cells) ∧ (err ≠ 0 → a = 0 ∧ b = 0 ∧ R = none ∧ m = 0 ∧ c = 0)
theorem Res.bl {B : Nat} {w w' : World} {err : Int} {W H : Nat} {cells : List Value} {a b : Int} {R : Option Addr} {m c : Nat} (h : Res B w err W H cells a b R m c) (hb : Bl w w') : Res B w' err W H cells a b R m c :=
  ⟨fun e => (h.1 e).bl hb, h.2⟩
theorem Res.mono {B B' : Nat} {w : World} {err : Int} {W H : Nat} {cells : List Value} {a b : Int} {R : Option Addr} {m c : Nat} (h : Res B w err W H cells a b R m c) (hb : B' ≤ B) : Res B' w err W H cells a b R m c :=
  ⟨fun e => (h.1 e).mono hb, h.2⟩
theorem Res.zero (B : Nat) (w : World) {err : Int} (W H : Nat) (cells : List Value) (h : err ≠ 0) : Res B w err W H cells 0 0 none 0 0 :=
  ⟨fun e => absurd e h, fun _ => ⟨rfl, rfl, rfl, rfl, rfl⟩⟩
theorem Res.page {B : Nat} {w : World} {err : Int} {W H c : Nat} {R : Option Addr} {cells : List Value} (h : err = 0) (hr : Reads w 1 R (W * H) cells) (hn : ∀ ad, R = some ad → B ≤ ad.block) : Res B w err W H cells W H R (W * H) c :=
  ⟨fun _ => ⟨R, c, rfl, hr, hn⟩, fun e => absurd h e⟩

theorem MakesPage.bl {P : Program} {k : FuncId} {cap : Array Value} {w w' : World} {W H : Nat} {cells : List Value} (h : MakesPage P k cap w W H cells) (hb : Bl w w') : MakesPage P k cap w' W H cells :=
  ⟨h.1, fun wx hx => h.2 wx (hb.trans hx)⟩

/-! ### grids -/
theorem grid_get {α : Type} (W H : Nat) (f : Nat → Nat → α) (x y : Nat) (hx : x < W) (hy : y < H) : (grid W H f)[y * W + x]? = some (f x y) := by
  rw [grid_at _ _ _ _ (place_lt hx hy), Nat.mul_comm, Nat.mul_add_mod, Nat.mod_eq_of_lt hx, Nat.mul_add_div (by omega), Nat.div_eq_of_lt hx, Nat.add_zero]
theorem pix_grid (W H : Nat) (f : Nat → Nat → Bool) (x y : Nat) (hx : x < W) (hy : y < H) : pix (grid W H f) W x y = f x y := by
  unfold pix
  simp [List.getD, grid_get W H f x y hx hy]
def vix (zs : List Int) (W x y : Nat) : Int := valOf zs (y * W + x)
theorem vix_grid (W H : Nat) (f : Nat → Nat → Int) (x y : Nat) (hx : x < W) (hy : y < H) : vix (grid W H f) W x y = f x y := by
  unfold vix valOf
  simp [List.getD, grid_get W H f x y hx hy]
theorem grid_pix (W H : Nat) (bs : List Bool) (h : bs.length = W * H) : grid W H (pix bs W) = bs := by
  apply List.ext_getElem?
  intro i
  rcases Nat.lt_or_ge i (W * H) with hi | hi
  · rw [grid_at W H _ i hi]
    have e : i / W * W + i % W = i := by rw [Nat.mul_comm]; exact Nat.div_add_mod i W
    unfold pix
    rw [e, List.getD_eq_getElem?_getD, List.getElem?_eq_getElem (by omega)]
    rfl
  · rw [List.getElem?_eq_none (by rw [grid_length]; exact hi), List.getElem?_eq_none (by omega)]
theorem grid_vix (W H : Nat) (zs : List Int) (h : zs.length = W * H) : grid W H (vix zs W) = zs := by
  apply List.ext_getElem?
  intro i
  rcases Nat.lt_or_ge i (W * H) with hi | hi
  · rw [grid_at W H _ i hi]
    have e : i / W * W + i % W = i := by rw [Nat.mul_comm]; exact Nat.div_add_mod i W
    unfold vix valOf
    rw [e, List.getD_eq_getElem?_getD, List.getElem?_eq_getElem (by omega)]
    rfl
  · rw [List.getElem?_eq_none (by rw [grid_length]; exact hi), List.getElem?_eq_none (by omega)]

theorem Reads.vplace {w : World} {A : Option Addr} {W H : Nat} {zs : List Int} (h : Reads w 1 A (W * H) (zs.map (.int .u8))) {x y : Nat} (hx : x < W) (hy : y < H) :
    ∃ ad, A = some ad ∧ w.cell? (ad.add (y * W + x)) = some (.int .u8 (vix zs W x y)) := by
  have hk := place_lt hx hy
  obtain ⟨ad, u, e, hu, hc⟩ := h.at_ hk
  refine ⟨ad, e, ?_⟩
  have hl : y * W + x < zs.length := by have := h.1; simp at this; omega
  have hu' : u = .int .u8 (vix zs W x y) := by simpa [vix, valOf, List.getD, hl] using hu.symm
  rw [hc, hu']

/-! ### turned by quarters -/
def tW (k W H : Nat) : Nat := if k = 1 ∨ k = 3 then H else W
def tH (k W H : Nat) : Nat := if k = 1 ∨ k = 3 then W else H
def tF {α : Type} (f : Nat → Nat → α) (k W H x y : Nat) : α :=
  if k = 1 then f y (H - 1 - x) else if k = 2 then f (W - 1 - x) (H - 1 - y) else if k = 3 then f (W - 1 - y) x else f x y
theorem tF_succ {α : Type} (f : Nat → Nat → α) (k W H x y : Nat) (hk : k < 3) (hx : x < tW (k + 1) W H) (hy : y < tH (k + 1) W H) : tF f k W H y (tH k W H - 1 - x) = tF f (k + 1) W H x y := by
  have : k = 0 ∨ k = 1 ∨ k = 2 := by omega
  rcases this with rfl | rfl | rfl
  · simp [tF, tH]
  · simp [tF, tH]
  · simp [tW, tH] at hx hy
    simp only [tF, tH]
    simp
    rw [show H - 1 - (H - 1 - x) = x by omega]
theorem t_size (k W H : Nat) : tW k W H * tH k W H = W * H := by
  unfold tW tH
  split <;> simp [Nat.mul_comm]
theorem tW_succ (k W H : Nat) (hk : k < 3) : tW (k + 1) W H = tH k W H ∧ tH (k + 1) W H = tW k W H := by
  have : k = 0 ∨ k = 1 ∨ k = 2 := by omega
  rcases this with rfl | rfl | rfl <;> simp [tW, tH]
theorem t_in (k W H x y : Nat) (hx : x < tW k W H) (hy : y < tH k W H) : tF (fun x y => y * W + x) k W H x y < W * H := by
  unfold tW at hx
  unfold tH at hy
  unfold tF
  split
  · rename_i h
    rw [if_pos (Or.inl h)] at hx hy
    exact place_lt (W := W) (H := H) (x := y) (y := H - 1 - x) hy (by omega)
  · split
    · rename_i h1 h
      subst h
      simp at hx hy
      exact place_lt (W := W) (H := H) (x := W - 1 - x) (y := H - 1 - y) (by omega) (by omega)
    · split
      · rename_i h1 h2 h
        subst h
        simp at hx hy
        exact place_lt (W := W) (H := H) (x := W - 1 - y) (y := x) (by omega) hx
      · rename_i h1 h2 h3
        rw [if_neg (by omega)] at hx hy
        exact place_lt hx hy
def quarter (q : Int) : Nat := (q % 4).toNat
theorem quarter_lt (q : Int) : quarter q < 4 := by unfold quarter; omega

theorem Res.store {B : Nat} {w : World} {err : Int} {W H : Nat} {cells : List Value} {a b : Int} {R : Option Addr} {m c : Nat} (h : Res B w err W H cells a b R m c) {p : Addr} (hp : p.block < B) (u : Value) : Res B (w.setCell p u) err W H cells a b R m c :=
  ⟨fun e => (h.1 e).store hp u, h.2⟩

end Go.Proofs.YtpjemcfcheijkaaDoor


/-! The plain law of fonts: what is wrong with one; how letters lie in memory. -/
namespace Go.Proofs.YtpjemcfcheijkaaDoor
open Go.RowKit

/-- A letter: its text, its page's size, where the page's pixels lie, and what they are. -/
structure Ltr where
  text : List UInt8
  W : Int
  H : Int
  A : Option Addr
  m : Nat
  c : Nat
  bs : List Bool
def Ltr.cells (l : Ltr) : List Value := [.string ⟨l.text.toArray⟩, .int .i64 l.W, .int .i64 l.H, .slice l.A l.m l.c]
def ltrCells (ls : List Ltr) : List Value := ls.flatMap Ltr.cells
theorem ltrCells_len (ls : List Ltr) : (ltrCells ls).length = ls.length * 4 := by
  unfold ltrCells
  induction ls with
  | nil => rfl
  | cons l ls ih =>
    rw [List.flatMap_cons, List.length_append, ih, List.length_cons]
    show 4 + ls.length * 4 = (ls.length + 1) * 4
    omega
theorem ltrCells_append (a b : List Ltr) : ltrCells (a ++ b) = ltrCells a ++ ltrCells b := by unfold ltrCells; rw [List.flatMap_append]
theorem ltrCells_at {ls : List Ltr} {i : Nat} {l : Ltr} (h : ls[i]? = some l) (j : Nat) (hj : j < 4) : (ltrCells ls)[i * 4 + j]? = l.cells[j]? := by
  induction ls generalizing i with
  | nil => simp at h
  | cons x ls ih =>
    unfold ltrCells
    rw [List.flatMap_cons]
    rcases i with _ | i
    · simp only [List.getElem?_cons_zero, Option.some.injEq] at h
      subst h
      rw [List.getElem?_append_left (by show 0 * 4 + j < 4; omega)]
      simp
    · rw [List.getElem?_append_right (by show 4 ≤ (i + 1) * 4 + j; omega)]
      have e : (i + 1) * 4 + j - x.cells.length = i * 4 + j := by
        show (i + 1) * 4 + j - 4 = i * 4 + j
        omega
      rw [e]
      exact ih (by simpa using h)
/-- The letters lie there. -/
def LtrsAt (w : World) (L : Option Addr) (ls : List Ltr) : Prop := Reads w 4 L ls.length (ltrCells ls) ∧ ∀ l ∈ ls, Reads w 1 l.A l.m (l.bs.map .bool) ∧ l.text.length ≤ 9223372036854775807
theorem LtrsAt.bl {w w' : World} {L : Option Addr} {ls : List Ltr} (h : LtrsAt w L ls) (hb : Bl w w') : LtrsAt w' L ls := ⟨h.1.bl hb, fun l hl => ⟨(h.2 l hl).1.bl hb, (h.2 l hl).2⟩⟩
theorem LtrsAt.at_ {w : World} {L : Option Addr} {ls : List Ltr} {i : Nat} {l : Ltr} (h : LtrsAt w L ls) (hi : ls[i]? = some l) : ∃ ad, L = some ad ∧ w.cell? (ad.add (i * 4)) = some (.string ⟨l.text.toArray⟩) ∧ w.cell? ⟨(ad.add (i * 4)).block, (ad.add (i * 4)).off + 1, none⟩ = some (.int .i64 l.W) ∧
    w.cell? ⟨(ad.add (i * 4)).block, (ad.add (i * 4)).off + 2, none⟩ = some (.int .i64 l.H) ∧ w.cell? ⟨(ad.add (i * 4)).block, (ad.add (i * 4)).off + 3, none⟩ = some (.slice l.A l.m l.c) := by
  have hlt : i < ls.length := (List.getElem?_eq_some_iff.1 hi).1
  obtain ⟨ad, e, hc⟩ := h.1.2 (by omega)
  have key : ∀ j v, j < 4 → l.cells[j]? = some v → w.cell? ((ad.add (i * 4)).add j) = some v := fun j v hj hv => by
    rw [add_of_add]
    exact hc _ _ (by rw [ltrCells_at hi j hj]; exact hv)
  have k0 := key 0 _ (by omega) rfl
  have k1 := key 1 _ (by omega) rfl
  have k2 := key 2 _ (by omega) rfl
  have k3 := key 3 _ (by omega) rfl
  rw [Addr.add_zero'] at k0
  rw [Addr.add_succ'] at k1 k2 k3
  exact ⟨ad, e, k0, k1, k2, k3⟩
theorem LtrsAt.take {w : World} {L : Option Addr} {ls : List Ltr} (h : LtrsAt w L ls) (i : Nat) (hi : i ≤ ls.length) : LtrsAt w L (ls.take i) := by
  have hl : (ls.take i).length = i := by simp; omega
  refine ⟨⟨ltrCells_len _, fun hn => ?_⟩, fun l hm => h.2 l (List.mem_of_mem_take hm)⟩
  obtain ⟨ad, e, hc⟩ := h.1.2 (by omega)
  refine ⟨ad, e, fun j u hj => hc j u ?_⟩
  have e2 : ltrCells ls = ltrCells (ls.take i) ++ ltrCells (ls.drop i) := by rw [← ltrCells_append, List.take_append_drop]
  rw [e2, List.getElem?_append_left (List.getElem?_eq_some_iff.1 hj).1]
  exact hj

/-! ### what is wrong -/
def textB (l : List UInt8) : Bool := decide (∀ b ∈ l, 33 ≤ b.toNat ∧ b.toNat ≤ 126) && decide (1 ≤ l.length ∧ l.length ≤ 4)
/-- Does some column have no ink? -/
def bareB (bs : List Bool) (W H : Nat) : Bool := decide (∃ x, x < W ∧ colN bs W H x = 0)
def ltrErr (ht : Int) (prev : List (List UInt8)) (l : Ltr) : Int :=
  firstNZ [whenI (!textB l.text) 2, whenI (decide (l.text ∈ prev)) 6, pageErr l.W l.H l.m, whenI (l.H != ht) 11, whenI (decide (64 < l.W)) 4, whenI (bareB l.bs l.W.toNat l.H.toNat) 2]
def ltrsErr (ht : Int) : List (List UInt8) → List Ltr → Int
  | _, [] => 0
  | prev, l :: ls => if ltrErr ht prev l = 0 then ltrsErr ht (prev ++ [l.text]) ls else ltrErr ht prev l
theorem ltrsErr_go {ht : Int} {prev : List (List UInt8)} {l : Ltr} {ls : List Ltr} (h : ltrErr ht prev l = 0) : ltrsErr ht prev (l :: ls) = ltrsErr ht (prev ++ [l.text]) ls := by
  show (if ltrErr ht prev l = 0 then _ else _) = _
  rw [if_pos h]
theorem ltrsErr_stop {ht : Int} {prev : List (List UInt8)} {l : Ltr} {ls : List Ltr} (h : ltrErr ht prev l ≠ 0) : ltrsErr ht prev (l :: ls) = ltrErr ht prev l := by
  show (if ltrErr ht prev l = 0 then _ else _) = _
  rw [if_neg h]
def rangeB (ht gap sp : Int) : Bool := inB ht 1 64 && (inB gap 1 16 && inB sp 1 64)
def fontHead (nm : Bool) (ht gap sp : Int) (n : Nat) : Int := firstNZ [whenI (!nm) 5, whenI (!rangeB ht gap sp) 3, whenI (decide (sp ≤ gap)) 7, whenI (decide (n = 0)) 9, whenI (decide (200 < n)) 4]
def fontErr (nm : Bool) (ht gap sp : Int) (ls : List Ltr) : Int := if fontHead nm ht gap sp ls.length = 0 then ltrsErr ht [] ls else fontHead nm ht gap sp ls.length
/-- What is left of the letters, from the i-th on. -/
theorem ltrsErr_from {ht : Int} {ls : List Ltr} {i : Nat} {l : Ltr} (h : ls[i]? = some l) : ltrsErr ht ((ls.take i).map Ltr.text) (ls.drop i) = if ltrErr ht ((ls.take i).map Ltr.text) l = 0 then ltrsErr ht ((ls.take (i + 1)).map Ltr.text) (ls.drop (i + 1)) else ltrErr ht ((ls.take i).map Ltr.text) l := by
  have hlt : i < ls.length := (List.getElem?_eq_some_iff.1 h).1
  have e : ls.drop i = l :: ls.drop (i + 1) := by
    rw [List.drop_eq_getElem_cons hlt]
    congr 1
    exact (List.getElem?_eq_some_iff.1 h).2
  have e2 : ls.take (i + 1) = ls.take i ++ [l] := by rw [List.take_add_one, h]; rfl
  rw [e, e2, List.map_append]
  rfl

end Go.Proofs.YtpjemcfcheijkaaDoor


/-! The plain law of what is seen of a piece: the nearest letter, and the next. -/
namespace Go.Proofs.YtpjemcfcheijkaaDoor
open Go.RowKit

/-- How far a letter is from a shape, at a reach of 1. -/
def farL (cs : List Bool) (W H : Nat) (l : Ltr) : Int := farN (inkF cs W H) (inkF l.bs l.W.toNat l.H.toNat) W H l.W.toNat l.H.toNat 1
/-- The nearest letter's text, how far it is, and the next. -/
abbrev Best := List UInt8 × Int × Int
def bestStep (cs : List Bool) (W H : Nat) (s : Best) (l : Ltr) : Best :=
  if l.W - (W : Int) < -2 ∨ 2 < l.W - (W : Int) then s
  else if s.2.1 < 0 ∨ farL cs W H l < s.2.1 then (l.text, farL cs W H l, s.2.1)
  else if s.2.2 < 0 ∨ farL cs W H l < s.2.2 then (s.1, s.2.1, farL cs W H l)
  else s
def bestOf (cs : List Bool) (W H : Nat) (t0 : List UInt8) (ls : List Ltr) : Best := ls.foldl (bestStep cs W H) (t0, -1, -1)
theorem bestOf_succ {cs : List Bool} {W H : Nat} {t0 : List UInt8} {ls : List Ltr} {i : Nat} {l : Ltr} (h : ls[i]? = some l) : bestOf cs W H t0 (ls.take (i + 1)) = bestStep cs W H (bestOf cs W H t0 (ls.take i)) l := by
  unfold bestOf
  rw [List.take_add_one, h, List.foldl_append]
  rfl
theorem far_range {W H W' H' r : Nat} {cs bs : List Bool} (hW : W ≤ 4000) (hH : H ≤ 4000) (hW' : W' ≤ 4000) (hH' : H' ≤ 4000) : 0 ≤ farN (inkF cs W H) (inkF bs W' H') W H W' H' r ∧ farN (inkF cs W H) (inkF bs W' H') W H W' H' r ≤ 32000000 := by
  have h1 := tally_ink cs W H
  have h2 := tally_ink bs W' H'
  have h3 := tally_le cs (W * H)
  have h4 := tally_le bs (W' * H')
  have h5 := Nat.mul_le_mul hW hH
  have h6 := Nat.mul_le_mul hW' hH'
  have hFm : mostN (shifted (inkF cs W H) (inkF bs W' H') W H W' H' r) ((2 * r + 1) * (2 * r + 1)) ≤ (inkA (inkF cs W H) W H + inkA (inkF bs W' H') W' H') / 2 := mostN_le fun idx hidx => by
    have e1 : idx / (2 * r + 1) < 2 * r + 1 := Nat.div_lt_of_lt_mul (by omega)
    have e2 : idx % (2 * r + 1) < 2 * r + 1 := Nat.mod_lt _ (by omega)
    have h7 : diffN (inkF cs W H) (inkF bs W' H') W H W' H' r (shiftX r idx) (shiftY r idx) + 2 * bothN (inkF cs W H) (inkF bs W' H') W H W' H' (shiftX r idx) (shiftY r idx) = inkA (inkF cs W H) W H + inkA (inkF bs W' H') W' H' := by
      unfold shiftX shiftY
      obtain ⟨a, ha⟩ : ∃ a, a = idx % (2 * r + 1) := ⟨_, rfl⟩
      obtain ⟨b, hb⟩ : ∃ b, b = idx / (2 * r + 1) := ⟨_, rfl⟩
      rw [← ha, ← hb]
      rw [← ha] at e2
      rw [← hb] at e1
      exact diff_both (inkF_held cs W H) (inkF_held bs W' H') (by omega) (by omega) (by omega) (by omega)
    unfold shifted
    omega
  unfold farN
  omega
/-- What holds of the best, whatever letters came. -/
theorem best_inv {cs : List Bool} {W H : Nat} (t0 : List UInt8) (hW : W ≤ 4000) (hH : H ≤ 4000) {ls : List Ltr} (hl : ∀ l ∈ ls, l.W ≤ 64 ∧ l.H ≤ 4000) : (bestOf cs W H t0 ls).2.1 = -1 ∧ (bestOf cs W H t0 ls).2.2 = -1 ∨ (0 ≤ (bestOf cs W H t0 ls).2.1 ∧ (bestOf cs W H t0 ls).2.1 ≤ 32000000 ∧ -1 ≤ (bestOf cs W H t0 ls).2.2 ∧ (bestOf cs W H t0 ls).2.2 ≤ 32000000) := by
  have key : ∀ (ls : List Ltr) (s : Best), (∀ l ∈ ls, l.W ≤ 64 ∧ l.H ≤ 4000) → (s.2.1 = -1 ∧ s.2.2 = -1 ∨ (0 ≤ s.2.1 ∧ s.2.1 ≤ 32000000 ∧ -1 ≤ s.2.2 ∧ s.2.2 ≤ 32000000)) →
      ((ls.foldl (bestStep cs W H) s).2.1 = -1 ∧ (ls.foldl (bestStep cs W H) s).2.2 = -1 ∨ (0 ≤ (ls.foldl (bestStep cs W H) s).2.1 ∧ (ls.foldl (bestStep cs W H) s).2.1 ≤ 32000000 ∧ -1 ≤ (ls.foldl (bestStep cs W H) s).2.2 ∧ (ls.foldl (bestStep cs W H) s).2.2 ≤ 32000000)) := by
    intro ls
    induction ls with
    | nil => intro s _ h; exact h
    | cons l ls ih =>
      intro s hl h
      refine ih (bestStep cs W H s l) (fun x hx => hl x (List.mem_cons_of_mem _ hx)) ?_
      have hll := hl l (List.mem_cons_self ..)
      have hr : 0 ≤ farL cs W H l ∧ farL cs W H l ≤ 32000000 := far_range hW hH (by omega) (by omega)
      unfold bestStep
      split
      · exact h
      · split
        · right
          show 0 ≤ farL cs W H l ∧ farL cs W H l ≤ 32000000 ∧ -1 ≤ s.2.1 ∧ s.2.1 ≤ 32000000
          omega
        · split
          · right
            show 0 ≤ s.2.1 ∧ s.2.1 ≤ 32000000 ∧ -1 ≤ farL cs W H l ∧ farL cs W H l ≤ 32000000
            omega
          · exact h
  exact key ls _ hl (.inl ⟨rfl, rfl⟩)
/-- The text that one begins with counts only where no letter came near. -/
theorem best_text {cs : List Bool} {W H : Nat} (t0 t1 : List UInt8) (ls : List Ltr) (hW : W ≤ 4000) (hH : H ≤ 4000) (hl : ∀ l ∈ ls, l.W ≤ 64 ∧ l.H ≤ 4000) : (bestOf cs W H t0 ls).2 = (bestOf cs W H t1 ls).2 ∧ (0 ≤ (bestOf cs W H t0 ls).2.1 → (bestOf cs W H t0 ls).1 = (bestOf cs W H t1 ls).1) := by
  have key : ∀ (ls : List Ltr) (s u : Best), (∀ l ∈ ls, l.W ≤ 64 ∧ l.H ≤ 4000) → s.2 = u.2 → (0 ≤ s.2.1 → s.1 = u.1) → (ls.foldl (bestStep cs W H) s).2 = (ls.foldl (bestStep cs W H) u).2 ∧ (0 ≤ (ls.foldl (bestStep cs W H) s).2.1 → (ls.foldl (bestStep cs W H) s).1 = (ls.foldl (bestStep cs W H) u).1) := by
    intro ls
    induction ls with
    | nil => intro s u _ h1 h2; exact ⟨h1, h2⟩
    | cons l ls ih =>
      intro s u hl h1 h2
      have hll := hl l (List.mem_cons_self ..)
      refine ih _ _ (fun x hx => hl x (List.mem_cons_of_mem _ hx)) ?_ ?_
      · unfold bestStep
        rw [h1]
        split
        · exact h1
        · split
          · rfl
          · split <;> first | rfl | exact h1
      · unfold bestStep
        rw [h1]
        split
        · intro h; first | exact h2 h | exact h2 (by rw [h1]; exact h)
        · split
          · intro _; rfl
          · rename_i hno
            split
            · intro h
              first | exact h2 h | exact h2 (by rw [h1]; exact h)
            · intro h
              first | exact h2 h | exact h2 (by rw [h1]; exact h)
  exact key ls _ _ hl rfl (fun h => absurd h (show ¬ (0 : Int) ≤ -1 by decide))
/-- What is seen of a piece. -/
def farOff (b : Best) (most ht w : Int) : Bool := decide (b.2.1 < 0 ∨ most * ht * w < b.2.1 * 1000)
def seenCells (b : Best) (X W H : Nat) (most ht : Int) : List Value :=
  if farOff b most ht W = true then [.string ⟨#[63]⟩, .int .i64 X, .int .i64 0, .int .i64 W, .int .i64 H, .int .i64 (-1), .int .i64 (-1)]
  else [.string ⟨b.1.toArray⟩, .int .i64 X, .int .i64 0, .int .i64 W, .int .i64 H, .int .i64 b.2.1, .int .i64 b.2.2]
theorem seen_text {cs : List Bool} {bW bH : Nat} (t0 t1 : List UInt8) (ls : List Ltr) (hW : bW ≤ 4000) (hH : bH ≤ 4000) (hl : ∀ l ∈ ls, l.W ≤ 64 ∧ l.H ≤ 4000) (X W H : Nat) (most ht : Int) : seenCells (bestOf cs bW bH t0 ls) X W H most ht = seenCells (bestOf cs bW bH t1 ls) X W H most ht := by
  obtain ⟨h1, h2⟩ := best_text (cs := cs) t0 t1 ls hW hH hl
  have hf : farOff (bestOf cs bW bH t0 ls) most ht W = farOff (bestOf cs bW bH t1 ls) most ht W := by unfold farOff; rw [h1]
  unfold seenCells
  rw [hf]
  split
  · rfl
  · rename_i h
    have h0 : 0 ≤ (bestOf cs bW bH t0 ls).2.1 := by
      rw [← hf] at h
      unfold farOff at h
      simp only [decide_eq_true_eq, not_or] at h
      omega
    rw [h2 h0, h1]

end Go.Proofs.YtpjemcfcheijkaaDoor


/-! slices.Equal of numbers; blank pages; 'pages'. -/
namespace Go.Proofs.YtpjemcfcheijkaaDoor
open Go.RowKit

theorem eq_of_takes (xs ys : List Int) (hl : xs.length = ys.length) (h : ∀ j, j < xs.length → xs[j]? = ys[j]?) : xs = ys := by
  apply List.ext_getElem? 
  intro i
  rcases Nat.lt_or_ge i xs.length with hi | hi
  · exact h i hi
  · rw [List.getElem?_eq_none hi, List.getElem?_eq_none (by omega)]

/-! ### blank pages -/
end Go.Proofs.YtpjemcfcheijkaaDoor


/-! page.ToBits, page.ToGray, and the function values of the law on counts. -/
namespace Go.Proofs.YtpjemcfcheijkaaDoor
open Go.RowKit

def lvlErr (W H : Int) (k : Nat) (n : Int) : Int := firstNZ [pageErr W H k, whenI (!inB n 0 256) 3]
theorem lvlErr_zero {W H : Int} {k : Nat} {n : Int} (h : lvlErr W H k n = 0) : pageErr W H k = 0 ∧ (0 ≤ n ∧ n ≤ 256) := by
  unfold lvlErr firstNZ at h
  split at h
  · rename_i h0
    refine ⟨h0, ?_⟩
    cases hi : inB n 0 256
    · rw [hi] at h; simp [firstNZ, whenI] at h
    · exact inB_true.1 hi
  · contradiction
def bitF (zs : List Int) (W : Nat) (level : Int) (x y : Nat) : Bool := decide (vix zs W x y < level)
def grayF (bs : List Bool) (W : Nat) (x y : Nat) : Int := if pix bs W x y then 0 else 255

/-! ### ToGray -/
end Go.Proofs.YtpjemcfcheijkaaDoor


/-! page.counted, Rows, Columns, Histogram. -/
namespace Go.Proofs.YtpjemcfcheijkaaDoor
open Go.RowKit

/-- A table of numbers if the error is 0, nothing else. -/
def TabRes (w : World) (err : Int) (N : Nat) (f : Nat → Int) (P : Option Addr) (m : Nat) : Prop :=
  (err = 0 → m = N ∧ Reads w 1 P m ((tabL m f).map (.int .i64))) ∧ (err ≠ 0 → m = 0 ∧ P = none)
theorem TabRes.bl {w w' : World} {err : Int} {N : Nat} {f : Nat → Int} {P : Option Addr} {m : Nat} (h : TabRes w err N f P m) (hb : Bl w w') : TabRes w' err N f P m :=
  ⟨fun e => ⟨(h.1 e).1, (h.1 e).2.bl hb⟩, h.2⟩
def rowI (bs : List Bool) (W k : Nat) : Int := ((rowN bs W k : Nat) : Int)
def colI (bs : List Bool) (W H k : Nat) : Int := ((colN bs W H k : Nat) : Int)
def valI (zs : List Int) (n k : Nat) : Int := ((cntV zs n k : Nat) : Int)

set_option maxRecDepth 100000 in
set_option maxHeartbeats 2000000 in
theorem counted_any (W H : Nat) (A : Option Addr) (ac : Nat) (bs : List Bool) (many : Nat) (num : Nat → Nat) (kf : FuncId) (cap : Array Value) (w : World) (hA : Reads w 1 A (W * H) (bs.map .bool)) (hbd : W * H ≤ 1048576) (hmany : many ≤ 4000)
    (hent : ∀ args w, (callFunc kf args).run Tryd.prog w = .ok (.enter kf args) w)
    (hnum : ∀ wx (i : Nat), Bl w wx → i < W * H → Calls Tryd.prog kf (#[.int .i64 i] ++ cap) wx fun e w' => e = .returned (.int .i64 ((num i : Nat) : Int)) ∧ Bl wx w') (hlt : ∀ i, i < W * H → num i < many) :
    Calls Tryd.prog 94 #[.agg #[.int .i64 W, .int .i64 H, .slice A (W * H) ac], .int .i64 many, .func (.func kf) #[] cap] w fun e w' =>
      ∃ g, e = .returned (.slice (some ⟨g, 0, none⟩) many many) ∧ w.heap.size ≤ g ∧ Blk w' g 3 (tabI many fun k => ((cntBy bs num (W * H) k : Nat) : Int)) ∧ Bl w w' := by
  let w2 := (w).alloc (.cells #[.int .i64 W, .int .i64 H, .slice A (W * H) ac] 27)
  have w2b : Bl w w2 := (Bl.refl w).alloc _
  have w21 : Blk w2 (w.heap.size) 27 #[.int .i64 W, .int .i64 H, .slice A (W * H) ac] := by
    have h0 := Blk.new (w) 27 #[.int .i64 W, .int .i64 H, .slice A (W * H) ac]
    exact h0
  have k1 := w21.all3
  have lw2 : w2.heap.size = w.heap.size + 1 := by simp [w2]
  have hmk := run_make_row' (P := Tryd.prog) 79 3 (.int .i64 0) 8 Tryd.underlying79 info_int rfl .i64 .i64 many (by omega) (by omega)
  rw [tabI_made] at hmk
  have HA := Lib.hid hA; have Hnum := Lib.hid hnum; have Hlt := Lib.hid hlt
  have start : Blk (w2.alloc (.cells (tabI many fun _ => 0) 3)) (w.heap.size + 1) 3 (tabI many fun k => ((cntBy bs num 0 k : Nat) : Int)) := by
    have := Blk.new w2 3 (tabI many fun _ => 0)
    rw [lw2] at this
    exact this
  have Start := Lib.hid start
  clear hA hnum hlt start
  go_enter Tryd.func94, Tryd.ntmps94
  go_wp2_with fail
  go_loopw [15] (fun u wr => ∃ i : Nat, i ≤ W * H ∧ u = .int .i64 i ∧ Bl w2 wr ∧ Blk wr (w.heap.size + 1) 3 (tabI many fun k => ((cntBy bs num i k : Nat) : Int))) (fun u _ => W * H - (intOf u).toNat)
  case atStart => exact ⟨0, Nat.zero_le _, rfl, (Bl.refl _).alloc _, Start.out⟩
  case round =>
    clear k1
    obtain ⟨i, hi, rfl, hbr, hbo⟩ := hrel
    have k1 := (w21.bl hbr).all3
    by_cases hlt : i < W * H
    · have il : (i : Int) < (W : Int) * (H : Int) := by have := Int.natCast_mul W H; omega
      obtain ⟨ad, ua, eA, hu, hca⟩ := (HA.out.bl (w2b.trans hbr)).at_ hlt
      have hua : ua = .bool (bs.getD i false) := by
        simp only [List.getElem?_map, Option.map_eq_some_iff] at hu
        obtain ⟨b, hb1, hb2⟩ := hu
        rw [← hb2, List.getD, hb1]; rfl
      clear hu
      subst hua eA
      have hst := fun k => cntBy_succ bs num i k
      have hle := fun k => cntBy_le bs num i k
      have hn := Hlt.out i hlt
      have hcall := fun wx h => Hnum.out wx i (w2b.trans h) hlt
      obtain ⟨va, hva⟩ : ∃ v, v = bs.getD i false := ⟨_, rfl⟩
      obtain ⟨a, ha⟩ : ∃ a, a = num i := ⟨_, rfl⟩
      rw [← ha] at hn
      simp only [← ha] at hcall hst
      simp only [← hva] at hst hca
      have Hst := Lib.hid hst; have Hle := Lib.hid hle; have Hcall := Lib.hid hcall
      clear hst hle hcall hva ha
      cases va
      · have hsame : tabI many (fun k => ((cntBy bs num i k : Nat) : Int)) = tabI many (fun k => ((cntBy bs num (i + 1) k : Nat) : Int)) :=
          tabI_congr fun k _ => by rw [Hst.out k]; simp [b1]
        rw [hsame] at hbo
        clear hsame
        go_wp2_with fail
        exact ⟨⟨i + 1, hlt, by go_num, hbr, hbo⟩, by simp [intOf]; omega⟩
      · go_wp2_with fail
        refine (Hcall.out _ hbr).mono ?_
        rintro e w4 ⟨rfl, hb4⟩
        have hbr4 := hbr.trans hb4
        have hbo4 := hbo.bl hb4
        have kc := hbo4.tabAt hn
        have kf := hbo4.frozen a
        have hset := hbo4.tabSet (f' := fun k => ((cntBy bs num (i + 1) k : Nat) : Int)) a (((cntBy bs num i a : Nat) : Int) + 1) (fun k hk => by
          rw [Hst.out k]
          by_cases e : k = a
          · subst e; simp [b1]
          · have : ¬ (a = k) := fun h => e h.symm
            simp [e, this, b1])
        have hcb := Hle.out a
        obtain ⟨c, hc⟩ : ∃ c, c = cntBy bs num i a := ⟨_, rfl⟩
        rw [← hc] at kc hset hcb
        have Hset := Lib.hid hset
        clear hset hc k1
        go_wp2_with fail
        exact ⟨⟨i + 1, hlt, by go_num, hbr4.setCell (by simp; omega) _, Hset.out⟩, by simp [intOf]; omega⟩
    · obtain rfl : i = W * H := by omega
      go_wp2_with fail
      go_ret
      exact ⟨_, rfl, by omega, hbo, w2b.trans hbr⟩

set_option maxHeartbeats 400000 in
theorem columns1_any (p W : Nat) (H : Int) (v : Value) (i : Nat) (w : World) (hp : Blk w p 27 #[.int .i64 W, .int .i64 H, v]) (hW : 1 ≤ W ∧ W ≤ 4000) (hi : i ≤ 1048576) :
    Calls Tryd.prog 95 #[.int .i64 i, .pointer (some ⟨p, 0, none⟩)] w fun e w' => e = .returned (.int .i64 ((i % W : Nat) : Int)) ∧ Bl w w' := by
  have kp := hp.all3
  have hWp : ¬ (W = 0) := by omega
  obtain ⟨q, hq⟩ : ∃ q, q = i % W := ⟨_, rfl⟩
  have e1 : (i : Int) % (W : Int) = (q : Int) := by rw [hq]; simp
  have e2 := hq.symm
  have hqb : q ≤ i := by rw [hq]; first | exact Nat.div_le_self _ _ | exact Nat.mod_le _ _
  rw [← hq]
  clear hq
  go_enter Tryd.func95, Tryd.ntmps95
  go_wp2_with fail
  go_ret
  exact ⟨by first | rfl | exact ret_int e1, Bl.refl _⟩
set_option maxRecDepth 100000 in
set_option maxHeartbeats 1000000 in
theorem columns_any (W H : Int) (A : Option Addr) (an ac : Nat) (bs : List Bool) (w : World) (hA : Reads w 1 A an (bs.map .bool)) :
    Calls Tryd.prog 57 #[.agg #[.int .i64 W, .int .i64 H, .slice A an ac]] w fun e w' =>
      ∃ P m c, e = .returned (.tuple #[.slice P m c, .int .i64 (pageErr W H an)]) ∧ TabRes w' (pageErr W H an) W.toNat (colI bs W.toNat H.toNat) P m ∧ Bl w w' := by
  let w2 := (w).alloc (.cells #[.int .i64 W, .int .i64 H, .slice A an ac] 27)
  have w2b : Bl w w2 := (Bl.refl w).alloc _
  have w21 : Blk w2 (w.heap.size) 27 #[.int .i64 W, .int .i64 H, .slice A an ac] := by
    have h0 := Blk.new (w) 27 #[.int .i64 W, .int .i64 H, .slice A an ac]
    exact h0
  have k1 := w21.all3
  by_cases hp : pageErr W H an = 0
  · have hz := sizeErr_zero (pageErr_zero hp).1
    have Hp := Lib.hid hp
    obtain ⟨W, H, rfl, rfl, rfl, u1, u2, u3⟩ := page_nat hp
    have hW : 1 ≤ W ∧ W ≤ 4000 := by omega
    have HA := Lib.hid (hA.bl w2b)
    clear hz hA
    have ent := enters Tryd.func95 (by kernel_rfl) rfl
    go_enter Tryd.func57, Tryd.ntmps57
    go_wp2_with fail
    refine (checkBits_any _ _ _ _ _ _).mono ?_
    rintro e w3 ⟨rfl, hb3⟩
    have k3 := (w21.bl hb3).all3
    clear k1
    go_wp2_with fail
    refine (counted_any W H A ac bs W (fun i => i % W) 95 #[.pointer (some ⟨w.heap.size, 0, none⟩)] _ (HA.out.bl hb3) u3 (by omega) ent
      (fun wx i hb hi => columns1_any _ W H _ i wx ((w21.bl hb3).bl hb) hW (by omega)) (fun i hi => (place_parts hi).1)).mono ?_
    rintro e w4 ⟨g, rfl, hg, hbk, hb4⟩
    have e : tabI W (fun k => ((cntBy bs (fun i => i % W) (W * H) k : Nat) : Int)) = tabI W (colI bs W H) := tabI_congr fun k hk => by rw [cntBy_cols bs W H k hk]; rfl
    rw [e] at hbk
    have hp := Hp.out
    go_wp2_with fail
    refine bodyPost_ret (v := .tuple #[.slice (some ⟨g, 0, none⟩) W W, .int .i64 0]) (by simp [results, Tryd.results57, go_sem]) rfl ⟨_, _, _, by rw [hp], ⟨fun _ => ⟨by simp, ?_⟩, fun h => absurd hp h⟩, (w2b.trans hb3).trans hb4⟩
    simpa using hbk.tabReads
  · have hq : (pageErr W H an != 0) = true := by simp [hp]
    have Hp := Lib.hid hp
    clear hp
    go_enter Tryd.func57, Tryd.ntmps57
    go_wp2_with fail
    refine (checkBits_any _ _ _ _ _ _).mono ?_
    rintro e w3 ⟨rfl, hb3⟩
    go_wp2_with fail
    refine bodyPost_ret (v := .tuple #[.slice none 0 0, .int .i64 (pageErr W H an)]) (by simp [results, Tryd.results57, go_sem]) rfl ⟨_, _, _, rfl, ⟨fun h => absurd h Hp.out, fun _ => ⟨rfl, rfl⟩⟩, w2b.trans hb3⟩

/-! ### Histogram -/
end Go.Proofs.YtpjemcfcheijkaaDoor


/-! bedref2.InkOf, RowsOf, ColumnsOf, Ends, BoundsOf. -/
namespace Go.Proofs.YtpjemcfcheijkaaDoor
open Go.RowKit

set_option maxRecDepth 100000 in
set_option maxHeartbeats 4000000 in
theorem inkOf_any (W H X Y BW BH : Nat) (A : Option Addr) (ac : Nat) (bs : List Bool) (w : World) (hA : Reads w 1 A (W * H) (bs.map .bool)) (hW : W ≤ 4000) (hH : H ≤ 4000) (hX : X + BW ≤ W) (hY : Y + BH ≤ H) :
    Calls Tryd.prog 89 #[.agg #[.int .i64 W, .int .i64 H, .slice A (W * H) ac], .agg #[.int .i64 X, .int .i64 Y, .int .i64 BW, .int .i64 BH]] w fun e w' => e = .returned (.int .i64 (inkN bs W X Y BW BH)) ∧ Bl w w' := by
  let w2 := ((w).alloc (.cells #[.int .i64 W, .int .i64 H, .slice A (W * H) ac] 27)).alloc (.cells #[.int .i64 X, .int .i64 Y, .int .i64 BW, .int .i64 BH] 50)
  have w2b : Bl w w2 := ((Bl.refl w).alloc _).alloc _
  have w21 : Blk w2 (w.heap.size) 27 #[.int .i64 W, .int .i64 H, .slice A (W * H) ac] := by
    have h0 := Blk.new (w) 27 #[.int .i64 W, .int .i64 H, .slice A (W * H) ac]
    exact (h0.alloc _)
  have w22 : Blk w2 (w.heap.size + 1) 50 #[.int .i64 X, .int .i64 Y, .int .i64 BW, .int .i64 BH] := by
    have h0 := Blk.new ((w).alloc (.cells #[.int .i64 W, .int .i64 H, .slice A (W * H) ac] 27)) 50 #[.int .i64 X, .int .i64 Y, .int .i64 BW, .int .i64 BH]
    simp only [World.size_alloc] at h0
    exact h0
  have k2 := w22.all4
  have HA := Lib.hid (hA.bl w2b)
  clear hA
  go_enter Tryd.func89, Tryd.ntmps89
  go_wp2_with fail
  go_loopw [5, 6] (fun n u wr => ∃ j : Nat, j ≤ BH ∧ u = .int .i64 ((Y : Int) + j) ∧ n = .int .i64 (inkN bs W X Y BW j) ∧ Bl w2 wr) (fun _ u _ => Y + BH - (intOf u).toNat)
  case atStart => exact ⟨0, Nat.zero_le _, by simp, rfl, Bl.refl _⟩
  case round =>
    clear k2
    obtain ⟨j, hj, rfl, rfl, hbr⟩ := hrel
    have k2 := (w22.bl hbr).all4
    by_cases hlt : j < BH
    · have d1 : (Y : Int) + (j : Int) < (Y : Int) + (BH : Int) := by omega
      go_wp2_with fail
      go_loopw [5, 7] (fun n u wr => ∃ i : Nat, i ≤ BW ∧ u = .int .i64 ((X : Int) + i) ∧ n = .int .i64 (((inkN bs W X Y BW j + sumN (fun i => b1 (pix bs W (X + i) (Y + j))) i : Nat)) : Int) ∧ Bl w2 wr) (fun _ u _ => X + BW - (intOf u).toNat)
      case atStart => exact ⟨0, Nat.zero_le _, by simp, rfl, hbr⟩
      case round =>
        clear k2 hbr
        rename_i wo _ _ _
        obtain ⟨i, hi, rfl, rfl, hbr⟩ := hrel
        have k1 := (w21.bl hbr).all3
        have k2 := (w22.bl hbr).all4
        by_cases hlt2 : i < BW
        · have d2 : (X : Int) + (i : Int) < (X : Int) + (BW : Int) := by omega
          have hat := at_any W H A ac bs (((X + i : Nat)) : Int) (((Y + j : Nat)) : Int) wr (HA.out.bl hbr) hW hH
          rw [atI_in bs W H (X + i) (Y + j) (by omega) (by omega)] at hat
          have hst : sumN (fun i => b1 (pix bs W (X + i) (Y + j))) (i + 1) = sumN (fun i => b1 (pix bs W (X + i) (Y + j))) i + b1 (pix bs W (X + i) (Y + j)) := rfl
          have hle : sumN (fun i => b1 (pix bs W (X + i) (Y + j))) i ≤ i * 1 := sumN_le (fun _ => b1_le _) i
          have hle2 : inkN bs W X Y BW j ≤ j * BW := sumN_le (fun k => by have := sumN_le (f := fun i => b1 (pix bs W (X + i) (Y + k))) (c := 1) (fun _ => b1_le _) BW; simpa using this) j
          have hle3 := Nat.mul_le_mul (show j ≤ 4000 by omega) (show BW ≤ 4000 by omega)
          obtain ⟨n, hn⟩ : ∃ n, n = sumN (fun i => b1 (pix bs W (X + i) (Y + j))) i := ⟨_, rfl⟩
          obtain ⟨va, hva⟩ : ∃ v, v = pix bs W (X + i) (Y + j) := ⟨_, rfl⟩
          obtain ⟨q, hq⟩ : ∃ q, q = inkN bs W X Y BW j := ⟨_, rfl⟩
          rw [← hn, ← hva] at hst
          rw [← hn] at hle ⊢
          rw [← hva] at hat
          rw [← hq] at hle2 ⊢
          have ex : (((X + i : Nat)) : Int) = (X : Int) + (i : Int) := by simp
          have ey : (((Y + j : Nat)) : Int) = (Y : Int) + (j : Int) := by simp
          rw [ex, ey] at hat
          have Hat := Lib.hid hat; have Hst := Lib.hid hst; have Hq := Lib.hid hq
          clear hat hst hn hva ex ey hq
          cases va
          all_goals
            go_wp2_with fail
            refine Hat.out.mono ?_
            rintro e w1 ⟨rfl, hb1⟩
            go_wp2_with fail
            exact ⟨⟨i + 1, hlt2, by go_num, by rw [Hst.out]; first | (congr 1; done) | (congr 1; simp [b1]; done) | (congr 1; simp [b1]; omega), hbr.trans hb1⟩, by simp [intOf]; omega⟩
        · obtain rfl : i = BW := by omega
          go_wp2_with fail
          exact ⟨⟨j + 1, hlt, by go_num, rfl, hbr⟩, by simp [intOf]; omega⟩
    · obtain rfl : j = BH := by omega
      go_wp2_with fail
      go_ret
      exact ⟨rfl, w2b.trans hbr⟩

set_option maxRecDepth 100000 in
set_option maxHeartbeats 2000000 in
theorem columnsOf_any (W H : Nat) (A : Option Addr) (ac : Nat) (bs : List Bool) (w : World) (hA : Reads w 1 A (W * H) (bs.map .bool)) (hW : W ≤ 4000) (hH : H ≤ 4000) :
    Calls Tryd.prog 47 #[.agg #[.int .i64 W, .int .i64 H, .slice A (W * H) ac]] w fun e w' => ∃ P c, e = .returned (.slice P W c) ∧ Reads w' 1 P W ((tabL W (colI bs W H)).map (.int .i64)) ∧ Bl w w' := by
  let w2 := (w).alloc (.cells #[.int .i64 W, .int .i64 H, .slice A (W * H) ac] 27)
  have w2b : Bl w w2 := (Bl.refl w).alloc _
  have w21 : Blk w2 (w.heap.size) 27 #[.int .i64 W, .int .i64 H, .slice A (W * H) ac] := by
    have h0 := Blk.new (w) 27 #[.int .i64 W, .int .i64 H, .slice A (W * H) ac]
    exact h0
  have k1 := w21.all3
  have lw2 : w2.heap.size = w.heap.size + 1 := by simp [w2]
  have HA := Lib.hid (hA.bl w2b)
  have ho0 : w2.ownsRow (w.heap.size + 1) 3 1 (.slice none 0 0) 0 ((tabL 0 (colI bs W H)).map (.int .i64)) := World.ownsRow_nil _ _ _ _
  have Ho0 := Lib.hid ho0
  clear hA ho0
  go_enter Tryd.func47, Tryd.ntmps47
  go_wp2_with fail
  go_loopw [3, 7] (fun v u wr => ∃ k : Nat, k ≤ W ∧ u = .int .i64 k ∧ Bl w2 wr ∧ wr.ownsRow (w.heap.size + 1) 3 1 v k ((tabL k (colI bs W H)).map (.int .i64))) (fun _ u _ => W - (intOf u).toNat)
  case atStart => exact ⟨0, Nat.zero_le _, rfl, Bl.refl _, Ho0.out⟩
  case round =>
    clear k1
    obtain ⟨k, hk, rfl, hbr, hown⟩ := hrel
    have k1 := (w21.bl hbr).all3
    by_cases hlt : k < W
    · have hcall := inkOf_any W H k 0 1 H A ac bs wr (HA.out.bl hbr) hW hH (by omega) (by omega)
      rw [ink_col] at hcall
      have htl : (tabL (k + 1) (colI bs W H)).map (Value.int .i64) = (tabL k (colI bs W H)).map (Value.int .i64) ++ [Value.int .i64 ((colI bs W H) k)] := by simp [tabL, List.range_succ]
      have Hcall := Lib.hid hcall; have Htl := Lib.hid htl
      clear hcall htl
      go_wp2_with fail
      refine Hcall.out.mono ?_
      rintro e w1 ⟨rfl, hb1⟩
      have hown1 := own_bl hown hb1
      have hbr1 := hbr.trans hb1
      clear hown
      go_wp2_with (at_builtin; refine wpList_append_one rfl (.tmp 10) (.tmp 17) 79 rfl 3 (.int .i64 0) 8 Tryd.underlying79 info_int rfl (w.heap.size + 1) _ _ _ rfl _ rfl rfl hbr1 (by omega) (by have := hbr1.le; omega) hown1 (by omega) (by unfold maxLen; omega) ?_; intro v' w' hown' hb' _)
      exact ⟨⟨k + 1, hlt, by go_num, hb', by rw [Htl.out]; exact hown'⟩, by simp [intOf]; omega⟩
    · obtain rfl : k = W := by omega
      obtain ⟨P, c, rfl, hp⟩ := own_reads hown
      go_wp2_with fail
      go_ret
      exact ⟨_, _, rfl, hp, w2b.trans hbr⟩

/-! ### Ends -/
end Go.Proofs.YtpjemcfcheijkaaDoor


/-! A region whose order is open, walked in one order, by a predicate that every operation keeps (all that lay in a world of one's choosing lies as it did). No condition. -/
namespace Go.Proofs.YtpjemcfcheijkaaDoor
open Go.RowKit

section
variable {P : Program} {ops : Array Oper} {Q : Exit → Act → World → Prop} {md : Region.Mode} {S : World → Prop}

def wpAnyS (P : Program) (md : Region.Mode) (ops : Array Oper) (Q : Exit → Act → World → Prop) (S : World → Prop) : Nat → Array Bool → Act → World → Prop
  | 0, listed, a, w => Region.ready md ops listed = [] ∧ Q .normal a w
  | fuel + 1, listed, a, w =>
    (Region.ready md ops listed = [] → Q .normal a w) ∧
    ∀ i ∈ Region.ready md ops listed, wpOp P ops Q i (fun a' w' => S w' ∧ wpAnyS P md ops Q S fuel (listed.setIfInBounds i true) a' w') a w

theorem wpAny_of_S : ∀ (fuel : Nat) (listed : Array Bool) (a : Act) (w : World), wpAnyS P md ops Q S fuel listed a w → wpAny P md ops Q fuel listed a w
  | 0, _, _, _, h => h
  | fuel + 1, _, _, _, h => ⟨h.1, fun i hi => wpOp_mono (fun a' w' h' => wpAny_of_S fuel _ a' w' h'.2) (h.2 i hi)⟩

theorem wpAnyS_first {i : Nat} {oi : Oper} {v : Value} (hi : ops[i]? = some oi) (hsel : ∀ (j : Nat) (o : Oper) cs b, ops[j]? = some o → o.op ≠ .select cs b)
    (hQ : ∀ c a w, Q (.panic c) (a.put oi.dst v) w → Q (.panic c) a w) :
    ∀ (fuel : Nat) (listed : Array Bool) (a : Act) (w : World), listed.size = ops.size → DownClosed md ops listed →
      (∀ j oj, ops[j]? = some oj → j ≠ i → listed.getD j true = false → (∀ e ∈ oj.after, Region.binds md e = true → e.on ≠ i) → oi.apart ops oj = true) →
      i ∈ Region.ready md ops listed → S w → YieldsIf P ops S oi v a →
      wpAnyS P md ops Q S fuel (listed.setIfInBounds i true) (a.put oi.dst v) w → wpAnyS P md ops Q S (fuel + 1) listed a w := by
  intro fuel
  induction fuel with
  | zero =>
    intro listed a w _ _ _ hr hS hy H
    refine ⟨fun h => (by rw [h] at hr; cases hr), fun j hj => ?_⟩
    by_cases hji : j = i
    · subst hji; exact hy.wpOp hi hS ⟨hS, H⟩
    · have := ready_mono hj hji
      rw [H.1] at this
      cases this
  | succ fuel ih =>
    intro listed a w hsz hdc hfree hr hS hy H
    refine ⟨fun h => (by rw [h] at hr; cases hr), fun j hj => ?_⟩
    by_cases hji : j = i
    · subst hji; exact hy.wpOp hi hS ⟨hS, H⟩
    · have h1 := H.2 j (ready_mono hj hji)
      obtain ⟨hjun, oj, hoj, hall⟩ := mem_ready.1 hj
      have hun0 : listed.getD i false = false := by
        have h0 := (mem_ready.1 hr).1
        rcases Nat.lt_or_ge i listed.size with h' | h'
        · simp [h'] at h0 ⊢; exact h0
        · simp [Array.getElem?_eq_none h']
      have hnot : ∀ e ∈ oj.after, Region.binds md e = true → e.on ≠ i := fun e he hb heq => by
        have h1 := hall e he hb
        rw [heq, hun0] at h1
        cases h1
      have h2 := wpOp_putIf hoj (hfree j oj hoj hji hjun hnot) (fun cs b => hsel i oi cs b hi) (fun cs b => hsel j oj cs b hoj) hQ hy h1
      have hun' : ∀ k, (listed.setIfInBounds j true).getD k true = false → listed.getD k true = false := fun k hun => by
        by_cases hjk : j = k
        · subst hjk; exact hjun
        · rw [getD_set_ne true hjk] at hun; exact hun
      refine wpOp_mono (fun a' w' h3 => ⟨h3.2.1, ih (listed.setIfInBounds j true) a' w' (by simpa using hsz) (hdc.set hj)
        (fun k ok hk hki hun hno => hfree k ok hk hki (hun' k hun) hno) (ready_mono hr (Ne.symm hji)) h3.2.1 h3.1 (by rw [Array.setIfInBounds_comm _ _ hji]; exact h3.2.2)⟩) h2

/-- In one order: 'true': what yields in every world that S holds of; 'false': whatever else. -/
def FlowS (P : Program) (ops : Array Oper) (Q : Exit → Act → World → Prop) (S : World → Prop) : List (Bool × Nat) → Act → World → Prop
  | [], a, w => Q .normal a w
  | (true, i) :: σ, a, w => ∃ o v, ops[i]? = some o ∧ YieldsIf P ops S o v a ∧ FlowS P ops Q S σ (a.put o.dst v) w
  | (false, i) :: σ, a, w => wpOp P ops Q i (fun a' w' => S w' ∧ FlowS P ops Q S σ a' w') a w

def flowOkS (md : Region.Mode) (ops : Array Oper) : List (Bool × Nat) → Array Bool → Bool
  | [], listed => (Region.ready md ops listed).isEmpty
  | (true, i) :: σ, listed => (Region.ready md ops listed).contains i && Region.free md ops listed i && flowOkS md ops σ (listed.setIfInBounds i true)
  | (false, i) :: σ, listed => Region.ready md ops listed == [i] && flowOkS md ops σ (listed.setIfInBounds i true)

theorem flowS_sound (hs : Region.noSelect ops = true) (hQ : ∀ c a d v w, Q (.panic c) (Act.put a d v) w → Q (.panic c) a w) :
    ∀ (σ : List (Bool × Nat)) (fuel : Nat) (listed : Array Bool) (a : Act) (w : World), listed.size = ops.size → DownClosed md ops listed → σ.length ≤ fuel → flowOkS md ops σ listed = true → S w →
      FlowS P ops Q S σ a w → wpAnyS P md ops Q S fuel listed a w := by
  intro σ
  induction σ with
  | nil =>
    intro fuel listed a w _ _ _ hok _ h
    have hr : Region.ready md ops listed = [] := by simpa [flowOkS] using hok
    cases fuel with
    | zero => exact ⟨hr, h⟩
    | succ fuel => exact ⟨fun _ => h, fun i hi => by rw [hr] at hi; cases hi⟩
  | cons s σ ih =>
    obtain ⟨b, i⟩ := s
    intro fuel listed a w hsz hdc hf hok hS h
    cases fuel with
    | zero => simp at hf
    | succ fuel =>
      have hf' : σ.length ≤ fuel := by simpa using hf
      cases b with
      | true =>
        simp only [flowOkS, Bool.and_eq_true] at hok
        obtain ⟨⟨h1, h2⟩, h4⟩ := hok
        obtain ⟨o, v, ho, hy, hfl⟩ := h
        have hir : i ∈ Region.ready md ops listed := by simpa using h1
        exact wpAnyS_first ho (Region.noSelect_spec hs) (fun c a w => hQ c a o.dst v w) fuel listed a w hsz hdc (Region.free_spec ho h2) hir hS hy (ih fuel _ _ _ (by simpa using hsz) (hdc.set hir) hf' h4 hS hfl)
      | false =>
        simp only [flowOkS, Bool.and_eq_true, beq_iff_eq] at hok
        obtain ⟨h1, h4⟩ := hok
        refine ⟨fun h0 => (by rw [h0] at h1; cases h1), fun j hj => ?_⟩
        have hj0 := hj
        rw [h1] at hj
        obtain rfl := List.mem_singleton.1 hj
        exact wpOp_mono (fun a' w' h' => ⟨h'.1, ih fuel _ _ _ (by simpa using hsz) (hdc.set hj0) hf' h4 h'.1 h'.2⟩) h

/-- **THE BEGINNING.** -/
theorem wp_region_flowS {id : Nat} {a : Act} {w : World} (S : World → Prop) (σ : List (Bool × Nat)) (hm : P.follows .mixedOrders = true) (hs : Region.noSelect ops = true)
    (hl : decide (σ.length ≤ ops.size) = true) (hok : flowOkS .any ops σ (Array.replicate ops.size false) = true) (hS : S w.drew)
    (h : FlowS P ops (NoPanic Q) S σ a w.drew) : (Code.region id ops true).wp P Q a w :=
  wp_region_noPanic (wp_region_any hm (wpAny_of_S _ _ _ _ (flowS_sound hs noPanic_put σ _ _ _ _ (by simp) downClosed_start (of_decide_eq_true hl) hok hS h)))

section
variable {l : List Oper} {B : World}
theorem FlowS.calm {i : Nat} {o : Oper} {σ : List (Bool × Nat)} {a : Act} {w : World} (v : Value) (ho : l[i]? = some o) (hg : o.guard = none)
    (hr : ∀ w', S w' → (execOp a.eval o).run P w' = .ok (.value v) w') (h : FlowS P l.toArray Q S σ (a.put o.dst v) w) : FlowS P l.toArray Q S ((true, i) :: σ) a w :=
  ⟨o, v, by simpa using ho, .inl ⟨by simp [Region.wanted, hg], hr⟩, h⟩
theorem FlowS.calm2 {i : Nat} {o : Oper} {σ : List (Bool × Nat)} {a : Act} {w : World} (v : Value) (a' : Act) (ho : l[i]? = some o) (hg : o.guard = none)
    (hr : ∀ w', S w' → ∀ K : Result Next → Prop, K (.ok (.value v) w') → K ((execOp a.eval o).run P w')) (ha : ∀ K : Act → Prop, K a' → K (a.put o.dst v))
    (h : FlowS P l.toArray Q S σ a' w) : FlowS P l.toArray Q S ((true, i) :: σ) a w :=
  FlowS.calm v ho hg (fun w' hb => hr w' hb (fun r => r = .ok (.value v) w') rfl) (ha (fun x => FlowS P l.toArray Q S σ x w) h)
theorem FlowS.mv {i : Nat} {d : Option Tmp} {x : Operand} {ty : TypeId} {ps : String} {af : Array Edge} {σ : List (Bool × Nat)} {a : Act} {w : World} (a' : Act) (ho : l[i]? = some ⟨d, .move x, ty, ps, af, none⟩)
    (ha : ∀ K : Act → Prop, K a' → K (a.put d (a.eval x))) (h : FlowS P l.toArray Q S σ a' w) : FlowS P l.toArray Q S ((true, i) :: σ) a w :=
  FlowS.calm (a.eval x) ho rfl (fun w' _ => by simp [execOp]) (ha (fun x => FlowS P l.toArray Q S σ x w) h)
theorem FlowS.asg {i : Nat} {d : Option Tmp} {x : Operand} {ty : TypeId} {ps : String} {af : Array Edge} {σ : List (Bool × Nat)} {a : Act} {w : World} (a' : Act) (ho : l[i]? = some ⟨d, .assign x, ty, ps, af, none⟩)
    (ha : ∀ K : Act → Prop, K a' → K (a.put d (a.eval x))) (h : FlowS P l.toArray Q S σ a' w) : FlowS P l.toArray Q S ((true, i) :: σ) a w :=
  FlowS.calm (a.eval x) ho rfl (fun w' _ => by simp [execOp]) (ha (fun x => FlowS P l.toArray Q S σ x w) h)
theorem FlowS.calmG {i : Nat} {o : Oper} {σ : List (Bool × Nat)} {a : Act} {w : World} (v : Value) (ho : l[i]? = some o) (hg : Region.wanted o (yielded l.toArray a.tmps) = true)
    (hr : ∀ w', S w' → (execOp a.eval o).run P w' = .ok (.value v) w') (h : FlowS P l.toArray Q S σ (a.put o.dst v) w) : FlowS P l.toArray Q S ((true, i) :: σ) a w :=
  ⟨o, v, by simpa using ho, .inl ⟨hg, hr⟩, h⟩
theorem FlowS.pass {i : Nat} {o : Oper} {σ : List (Bool × Nat)} {a : Act} {w : World} (ho : l[i]? = some o) (hg : Region.wanted o (yielded l.toArray a.tmps) = false)
    (h : FlowS P l.toArray Q S σ (a.put o.dst undef) w) : FlowS P l.toArray Q S ((true, i) :: σ) a w :=
  ⟨o, undef, by simpa using ho, .inr ⟨hg, rfl⟩, h⟩
theorem FlowS.move {i : Nat} {o : Oper} {σ : List (Bool × Nat)} {a : Act} {w : World} (ho : l[i]? = some o)
    (h : wpList P l.toArray (Exit.then (fun a' w' => S w' ∧ FlowS P l.toArray Q S σ a' w') Q) [o] a w) : FlowS P l.toArray Q S ((false, i) :: σ) a w := by
  have ho' : l.toArray[i]? = some o := by simpa using ho
  simp only [FlowS, wpOp, ho']
  simp only [wpList] at h
  exact h
theorem FlowS.done {a : Act} {w : World} (h : Q .normal a w) : FlowS P ops (NoPanic Q) S [] a w := h
end
end

end Go.Proofs.YtpjemcfcheijkaaDoor


/-! What holds of a font whose error is 0. -/
namespace Go.Proofs.YtpjemcfcheijkaaDoor
open Go.RowKit

theorem firstNZ_zero {es : List Int} (h : firstNZ es = 0) : ∀ e ∈ es, e = 0 := by
  induction es with
  | nil => intro e he; cases he
  | cons x es ih =>
    have h' : (if x = 0 then firstNZ es else x) = 0 := h
    by_cases h0 : x = 0
    · rw [if_pos h0] at h'
      intro e he
      rcases List.mem_cons.1 he with rfl | he
      · exact h0
      · exact ih h' e he
    · rw [if_neg h0] at h'
      exact absurd h' h0
theorem whenI_zero {b : Bool} {n : Int} (h : whenI b n = 0) (hn : n ≠ 0) : b = false := by
  cases b
  · rfl
  · exact absurd h hn
theorem ltrsErr_zero {ht : Int} {ls : List Ltr} : ∀ {prev : List (List UInt8)}, ltrsErr ht prev ls = 0 → ∀ l ∈ ls, textB l.text = true ∧ pageErr l.W l.H l.m = 0 ∧ l.H = ht ∧ l.W ≤ 64 := by
  induction ls with
  | nil => intro prev _ l hl; cases hl
  | cons x ls ih =>
    intro prev h l hl
    have h' : (if ltrErr ht prev x = 0 then ltrsErr ht (prev ++ [x.text]) ls else ltrErr ht prev x) = 0 := h
    by_cases h0 : ltrErr ht prev x = 0
    · rw [if_pos h0] at h'
      rcases List.mem_cons.1 hl with rfl | hl
      · have hz := firstNZ_zero h0
        have k1 := whenI_zero (hz _ (by simp : whenI (!textB l.text) 2 ∈ _)) (by decide)
        have k2 := hz (pageErr l.W l.H l.m) (by simp)
        have k3 := whenI_zero (hz (whenI (l.H != ht) 11) (by simp)) (by decide)
        have k4 := whenI_zero (hz (whenI (decide (64 < l.W)) 4) (by simp)) (by decide)
        refine ⟨by simpa using k1, k2, by simpa using k3, ?_⟩
        have := of_decide_eq_false k4
        omega
      · exact ih h' l hl
    · rw [if_neg h0] at h'
      exact absurd h' h0
theorem fontErr_zero {nm : Bool} {ht gap sp : Int} {ls : List Ltr} (h : fontErr nm ht gap sp ls = 0) : (nm = true ∧ rangeB ht gap sp = true ∧ gap < sp ∧ ls.length ≠ 0 ∧ ls.length ≤ 200 ∧ 1 ≤ ht ∧ ht ≤ 64) ∧ ∀ l ∈ ls, textB l.text = true ∧ pageErr l.W l.H l.m = 0 ∧ l.H = ht ∧ l.W ≤ 64 := by
  have h' : (if fontHead nm ht gap sp ls.length = 0 then ltrsErr ht [] ls else fontHead nm ht gap sp ls.length) = 0 := h
  by_cases h0 : fontHead nm ht gap sp ls.length = 0
  · rw [if_pos h0] at h'
    refine ⟨?_, ltrsErr_zero h'⟩
    have hz := firstNZ_zero h0
    have k1 := whenI_zero (hz (whenI (!nm) 5) (by simp)) (by decide)
    have k2 := whenI_zero (hz (whenI (!rangeB ht gap sp) 3) (by simp)) (by decide)
    have k3 := of_decide_eq_false (whenI_zero (hz (whenI (decide (sp ≤ gap)) 7) (by simp)) (by decide))
    have k4 := of_decide_eq_false (whenI_zero (hz (whenI (decide (ls.length = 0)) 9) (by simp)) (by decide))
    have k5 := of_decide_eq_false (whenI_zero (hz (whenI (decide (200 < ls.length)) 4) (by simp)) (by decide))
    have k2' : rangeB ht gap sp = true := by simpa using k2
    have k6 : inB ht 1 64 = true := by
      unfold rangeB at k2'
      simp only [Bool.and_eq_true] at k2'
      exact k2'.1
    have k7 := inB_true.1 k6
    exact ⟨by simpa using k1, k2', by omega, k4, by omega, k7.1, k7.2⟩
  · rw [if_neg h0] at h'
    exact absurd h' h0

end Go.Proofs.YtpjemcfcheijkaaDoor


/-! A region in which two operations that make memory may come up in either order: reads and reckonings first, then both ways. No condition. -/
namespace Go.Proofs.YtpjemcfcheijkaaDoor
open Go.RowKit

section
variable {P : Program} {ops : Array Oper} {Q : Exit → Act → World → Prop} {md : Region.Mode} {cl : Nat → Bool}

def withK (K : Act → World → Prop) (Q : Exit → Act → World → Prop) : Exit → Act → World → Prop
  | .normal, a, w => K a w
  | e, a, w => Q e a w

def listTo : List (Bool × Nat) → Array Bool → Array Bool
  | [], listed => listed
  | (_, i) :: σ, listed => listTo σ (listed.setIfInBounds i true)

def preOk (md : Region.Mode) (ops : Array Oper) (cl : Nat → Bool) : List (Bool × Nat) → Array Bool → Bool
  | [], _ => true
  | (true, i) :: σ, listed => (Region.ready md ops listed).contains i && Region.free md ops listed i &&
      ((List.range ops.size).all fun j => j == i || listed.getD j true || !cl j || precedes md ops i j) && preOk md ops cl σ (listed.setIfInBounds i true)
  | (false, _) :: _, _ => false

theorem fork_sound (hs : Region.noSelect ops = true) (hQ : ∀ c a d v w, Q (.panic c) (Act.put a d v) w → Q (.panic c) a w) {R : Exit → Act → World → Prop} {n : Nat} :
    ∀ (σ : List (Bool × Nat)) (fuel : Nat) (listed : Array Bool) (a : Act) (w : World), listed.size = ops.size → DownClosed md ops listed → σ.length + n ≤ fuel → preOk md ops cl σ listed = true →
      (∀ (fuel : Nat) (a : Act) (w : World), (listTo σ listed).size = ops.size → DownClosed md ops (listTo σ listed) → n ≤ fuel → R .normal a w → wpAnyT P md ops Q cl fuel (listTo σ listed) a w) →
      Flow P ops R cl σ a w → wpAnyT P md ops Q cl fuel listed a w := by
  intro σ
  induction σ with
  | nil =>
    intro fuel listed a w hsz hdc hf hok hK h
    exact hK fuel a w hsz hdc (by simpa using hf) h
  | cons s σ ih =>
    obtain ⟨b, i⟩ := s
    intro fuel listed a w hsz hdc hf hok hK h
    cases fuel with
    | zero => simp at hf
    | succ fuel =>
      have hf' : σ.length + n ≤ fuel := by simp at hf; omega
      cases b with
      | true =>
        simp only [preOk, Bool.and_eq_true] at hok
        obtain ⟨⟨⟨h1, h2⟩, h3⟩, h4⟩ := hok
        obtain ⟨o, v, ho, hy, hfl⟩ := h
        have hir : i ∈ Region.ready md ops listed := by simpa using h1
        refine wpAnyT_first ho (Region.noSelect_spec hs) (fun c a w => hQ c a o.dst v w) fuel listed a w hsz hdc ?_ (Region.free_spec ho h2) hir hy (ih fuel _ _ _ (by simpa using hsz) (hdc.set hir) hf' h4 hK hfl)
        intro j oj hj hji hun hc
        simp only [List.all_eq_true, List.mem_range] at h3
        have h5 := h3 j (Array.getElem?_eq_some_iff.1 hj).1
        simpa only [hc, hun, Bool.or_eq_true, beq_iff_eq, hji, Bool.not_true, Bool.false_eq_true, false_or] using h5
      | false => simp [preOk] at hok

def forkOk (md : Region.Mode) (ops : Array Oper) (cl : Nat → Bool) (σ : List (Bool × Nat)) (i : Nat) (σ1 : List (Bool × Nat)) (j : Nat) (σ2 : List (Bool × Nat)) (listed : Array Bool) : Bool :=
  preOk md ops cl σ listed && Region.ready md ops (listTo σ listed) == [i, j] && flowOk md ops cl σ1 ((listTo σ listed).setIfInBounds i true) && flowOk md ops cl σ2 ((listTo σ listed).setIfInBounds j true)

/-- **TWO THAT COME UP IN EITHER ORDER.** -/
theorem wp_region_fork {id : Nat} {a : Act} {w : World} (σ : List (Bool × Nat)) (i : Nat) (σ1 : List (Bool × Nat)) (j : Nat) (σ2 : List (Bool × Nat)) (cl : Nat → Bool) (hm : P.follows .mixedOrders = true) (hs : Region.noSelect ops = true)
    (hl : decide (σ.length + (σ1.length + σ2.length + 1) ≤ ops.size + σ2.length ∧ σ2.length = σ1.length) = true) (hok : forkOk .any ops cl σ i σ1 j σ2 (Array.replicate ops.size false) = true)
    (h : Flow P ops (NoPanic (withK (fun a w => Flow P ops (NoPanic Q) cl ((false, i) :: σ1) a w ∧ Flow P ops (NoPanic Q) cl ((false, j) :: σ2) a w) Q)) cl σ a w.drew) : (Code.region id ops true).wp P Q a w := by
  have hl' := of_decide_eq_true hl
  unfold forkOk at hok
  simp only [Bool.and_eq_true, beq_iff_eq] at hok
  obtain ⟨⟨⟨h1, h2⟩, h3⟩, h4⟩ := hok
  refine wp_region_noPanic (wp_region_any hm (wpAny_of_T _ _ _ _ (fork_sound (cl := cl) (n := σ1.length + 1) hs noPanic_put σ _ _ _ _ (by simp) downClosed_start (by omega) h1 ?_ h)))
  intro fuel a w hsz hdc hf hK
  obtain ⟨k1, k2⟩ : Flow P ops (NoPanic Q) cl ((false, i) :: σ1) a w ∧ Flow P ops (NoPanic Q) cl ((false, j) :: σ2) a w := hK
  cases fuel with
  | zero => omega
  | succ fuel =>
    refine ⟨fun h0 => (by rw [h0] at h2; cases h2), fun k hk => ?_⟩
    have hk0 := hk
    rw [h2] at hk
    simp only [List.mem_cons, List.not_mem_nil, or_false] at hk
    rcases hk with rfl | rfl
    · exact wpOp_mono (fun a' w' h' => ⟨h'.1, flow_sound hs noPanic_put σ1 fuel _ _ _ (by simpa using hsz) (hdc.set hk0) (by omega) h3 h'.2⟩) k1
    · exact wpOp_mono (fun a' w' h' => ⟨h'.1, flow_sound hs noPanic_put σ2 fuel _ _ _ (by simpa using hsz) (hdc.set hk0) (by omega) h4 h'.2⟩) k2

theorem Flow.fork {K : Act → World → Prop} {a : Act} {w : World} (h : K a w) : Flow P ops (NoPanic (withK K Q)) cl [] a w := h
end

end Go.Proofs.YtpjemcfcheijkaaDoor
