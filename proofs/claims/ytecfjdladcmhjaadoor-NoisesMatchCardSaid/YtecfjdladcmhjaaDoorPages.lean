/- A page and an error: both outcomes under one roof; pages as grids. -/
import Derived.Test.YtecfjdladcmhjaaDoorMixes
namespace Go.Proofs.YtecfjdladcmhjaaDoor
open Go.RowKit

/-- The page that a function answers with its error: made anew, or empty. -/
def Res (B : Nat) (w : World) (err : Int) (W H : Nat) (cells : List Value) (a b : Int) (R : Option Addr) (m c : Nat) : Prop :=
  (err = 0 → NPage B w (.agg #[.int .i64 a, .int .i64 b, .slice R m c]) W H cells) ∧ (err ≠ 0 → a = 0 ∧ b = 0 ∧ R = none ∧ m = 0 ∧ c = 0)
theorem Res.bl {B : Nat} {w w' : World} {err : Int} {W H : Nat} {cells : List Value} {a b : Int} {R : Option Addr} {m c : Nat} (h : Res B w err W H cells a b R m c) (hb : Bl w w') : Res B w' err W H cells a b R m c :=
  ⟨fun e => (h.1 e).bl hb, h.2⟩
theorem Res.mono {B B' : Nat} {w : World} {err : Int} {W H : Nat} {cells : List Value} {a b : Int} {R : Option Addr} {m c : Nat} (h : Res B w err W H cells a b R m c) (hb : B' ≤ B) : Res B' w err W H cells a b R m c :=
  ⟨fun e => (h.1 e).mono hb, h.2⟩
theorem Res.zero (B : Nat) (w : World) {err : Int} (W H : Nat) (cells : List Value) (h : err ≠ 0) : Res B w err W H cells 0 0 none 0 0 :=
  ⟨fun e => absurd e h, fun _ => ⟨rfl, rfl, rfl, rfl, rfl⟩⟩
theorem Res.page {B : Nat} {w : World} {err : Int} {W H c : Nat} {R : Option Addr} {cells : List Value} (h : err = 0) (hr : Reads w 1 R (W * H) cells) (hn : ∀ ad, R = some ad → B ≤ ad.block) : Res B w err W H cells W H R (W * H) c :=
  ⟨fun _ => ⟨R, c, rfl, hr, hn⟩, fun e => absurd h e⟩

theorem MakesPage.bl {P : Program} {k : FuncId} {cap : Array Value} {w w' : World} {W H : Nat} {cells : List Value} (h : MakesPage P k cap w W H cells) (hb : Bl w w') : MakesPage P k cap w' W H cells :=
  ⟨h.1, fun wx hx => h.2 wx (hb.trans hx)⟩

theorem bitsIs_any (B : Nat) (err : Int) (W H : Nat) (xs : List Bool) (a b : Int) (R : Option Addr) (m c : Nat) (k : FuncId) (cap : Array Value) (w : World) (hv : Res B w err W H (xs.map .bool) a b R m c) (hk : err = 0 → MakesPage Tryd.prog k cap w W H (xs.map .bool)) (hl : err = 0 → W * H ≤ 1099511627776) :
    Calls Tryd.prog 24 #[.agg #[.int .i64 a, .int .i64 b, .slice R m c], .int .i64 err, .int .i64 err, .func (.func k) #[] cap] w fun e w' => e = .returned (.bool true) ∧ Bl w w' := by
  by_cases h : err = 0
  · have hp := hv.1 h
    have hm := hk h
    subst h
    exact bitsIs_ok W H _ xs k cap w hp.is hm (hl rfl)
  · obtain ⟨rfl, rfl, rfl, rfl, rfl⟩ := hv.2 h
    exact bitsIs_bad err _ w h

/-! ### grids -/
theorem grid_get {α : Type} (W H : Nat) (f : Nat → Nat → α) (x y : Nat) (hx : x < W) (hy : y < H) : (grid W H f)[y * W + x]? = some (f x y) := by
  rw [grid_at _ _ _ _ (place_lt hx hy), Nat.mul_comm, Nat.mul_add_mod, Nat.mod_eq_of_lt hx, Nat.mul_add_div (by omega), Nat.div_eq_of_lt hx, Nat.add_zero]
theorem pix_grid (W H : Nat) (f : Nat → Nat → Bool) (x y : Nat) (hx : x < W) (hy : y < H) : pix (grid W H f) W x y = f x y := by
  unfold pix
  simp [List.getD, grid_get W H f x y hx hy]
def vix (zs : List Int) (W x y : Nat) : Int := valOf zs (y * W + x)
theorem vix_grid (W H : Nat) (f : Nat → Nat → Int) (x y : Nat) (hx : x < W) (hy : y < H) : vix (grid W H f) W x y = f x y := by
  unfold vix valOf
  simp [List.getD, grid_get W H f x y hx hy]
theorem grid_pix (W H : Nat) (bs : List Bool) (h : bs.length = W * H) : grid W H (pix bs W) = bs := by
  apply List.ext_getElem?
  intro i
  rcases Nat.lt_or_ge i (W * H) with hi | hi
  · rw [grid_at W H _ i hi]
    have e : i / W * W + i % W = i := by rw [Nat.mul_comm]; exact Nat.div_add_mod i W
    unfold pix
    rw [e, List.getD_eq_getElem?_getD, List.getElem?_eq_getElem (by omega)]
    rfl
  · rw [List.getElem?_eq_none (by rw [grid_length]; exact hi), List.getElem?_eq_none (by omega)]
theorem grid_vix (W H : Nat) (zs : List Int) (h : zs.length = W * H) : grid W H (vix zs W) = zs := by
  apply List.ext_getElem?
  intro i
  rcases Nat.lt_or_ge i (W * H) with hi | hi
  · rw [grid_at W H _ i hi]
    have e : i / W * W + i % W = i := by rw [Nat.mul_comm]; exact Nat.div_add_mod i W
    unfold vix valOf
    rw [e, List.getD_eq_getElem?_getD, List.getElem?_eq_getElem (by omega)]
    rfl
  · rw [List.getElem?_eq_none (by rw [grid_length]; exact hi), List.getElem?_eq_none (by omega)]

theorem Reads.vplace {w : World} {A : Option Addr} {W H : Nat} {zs : List Int} (h : Reads w 1 A (W * H) (zs.map (.int .u8))) {x y : Nat} (hx : x < W) (hy : y < H) :
    ∃ ad, A = some ad ∧ w.cell? (ad.add (y * W + x)) = some (.int .u8 (vix zs W x y)) := by
  have hk := place_lt hx hy
  obtain ⟨ad, u, e, hu, hc⟩ := h.at_ hk
  refine ⟨ad, e, ?_⟩
  have hl : y * W + x < zs.length := by have := h.1; simp at this; omega
  have hu' : u = .int .u8 (vix zs W x y) := by simpa [vix, valOf, List.getD, hl] using hu.symm
  rw [hc, hu']

/-! ### turned by quarters -/
def tW (k W H : Nat) : Nat := if k = 1 ∨ k = 3 then H else W
def tH (k W H : Nat) : Nat := if k = 1 ∨ k = 3 then W else H
def tF {α : Type} (f : Nat → Nat → α) (k W H x y : Nat) : α :=
  if k = 1 then f y (H - 1 - x) else if k = 2 then f (W - 1 - x) (H - 1 - y) else if k = 3 then f (W - 1 - y) x else f x y
theorem tF_succ {α : Type} (f : Nat → Nat → α) (k W H x y : Nat) (hk : k < 3) (hx : x < tW (k + 1) W H) (hy : y < tH (k + 1) W H) : tF f k W H y (tH k W H - 1 - x) = tF f (k + 1) W H x y := by
  have : k = 0 ∨ k = 1 ∨ k = 2 := by omega
  rcases this with rfl | rfl | rfl
  · simp [tF, tH]
  · simp [tF, tH]
  · simp [tW, tH] at hx hy
    simp only [tF, tH]
    simp
    rw [show H - 1 - (H - 1 - x) = x by omega]
theorem t_size (k W H : Nat) : tW k W H * tH k W H = W * H := by
  unfold tW tH
  split <;> simp [Nat.mul_comm]
theorem tW_succ (k W H : Nat) (hk : k < 3) : tW (k + 1) W H = tH k W H ∧ tH (k + 1) W H = tW k W H := by
  have : k = 0 ∨ k = 1 ∨ k = 2 := by omega
  rcases this with rfl | rfl | rfl <;> simp [tW, tH]
theorem t_in (k W H x y : Nat) (hx : x < tW k W H) (hy : y < tH k W H) : tF (fun x y => y * W + x) k W H x y < W * H := by
  unfold tW at hx
  unfold tH at hy
  unfold tF
  split
  · rename_i h
    rw [if_pos (Or.inl h)] at hx hy
    exact place_lt (W := W) (H := H) (x := y) (y := H - 1 - x) hy (by omega)
  · split
    · rename_i h1 h
      subst h
      simp at hx hy
      exact place_lt (W := W) (H := H) (x := W - 1 - x) (y := H - 1 - y) (by omega) (by omega)
    · split
      · rename_i h1 h2 h
        subst h
        simp at hx hy
        exact place_lt (W := W) (H := H) (x := W - 1 - y) (y := x) (by omega) hx
      · rename_i h1 h2 h3
        rw [if_neg (by omega)] at hx hy
        exact place_lt hx hy
def quarter (q : Int) : Nat := (q % 4).toNat
theorem quarter_lt (q : Int) : quarter q < 4 := by unfold quarter; omega

theorem Res.store {B : Nat} {w : World} {err : Int} {W H : Nat} {cells : List Value} {a b : Int} {R : Option Addr} {m c : Nat} (h : Res B w err W H cells a b R m c) {p : Addr} (hp : p.block < B) (u : Value) : Res B (w.setCell p u) err W H cells a b R m c :=
  ⟨fun e => (h.1 e).store hp u, h.2⟩

end Go.Proofs.YtecfjdladcmhjaaDoor
