/- boxes in pages, Cut and Ink. -/
import Derived.Test.YthobmednnocklaaGreatDoorMClaimFills0

namespace Go.Proofs.YthobmednnocklaaGreatDoor
open Go.RowKit

theorem eq_of_cells {α : Type} (xs ys : List α) (hl : xs.length = ys.length) (h : ∀ j, j < xs.length → xs[j]? = ys[j]?) : xs = ys := by
 apply List.ext_getElem?
 intro i
 rcases Nat.lt_or_ge i xs.length with hi | hi
 · exact h i hi
 · rw [List.getElem?_eq_none hi, List.getElem?_eq_none (by omega)]

/-! ### slices.Equal at bool -/
set_option maxRecDepth 100000 in
set_option maxHeartbeats 400000 in
theorem equalBits_any (A B : Option Addr) (c d : Nat) (xs ys : List Bool) (w : World) (hx : Reads w 1 A xs.length (xs.map Value.bool)) (hy : Reads w 1 B ys.length (ys.map Value.bool)) (hl : xs.length ≤ 1099511627776) :
 Calls Tryz.prog 62 #[.slice A xs.length c, .slice B ys.length d] w fun e w' => e = .returned (.bool (decide (xs = ys))) ∧ Bl w w' := by
 by_cases hlen : xs.length = ys.length
 · have hne : ((xs.length : Int) != (ys.length : Int)) = false := by simp [hlen]
   have hne2 : (xs.length != ys.length) = false := by simp [hlen]
   have Hlen := Lib.hid hlen; clear hlen
   go_enter Tryz.func62, Tryz.ntmps62
   go_wp2
   go_loopw [13] (fun v wr => ∃ k : Nat, k ≤ xs.length ∧ v = .int .i64 k ∧ Hid (∀ j, j < k → xs[j]? = ys[j]?) ∧ Bl w wr) (fun v _ => xs.length - (intOf v).toNat)
   case atStart => exact ⟨0, Nat.zero_le _, rfl, fun j hj => absurd hj (by omega), Bl.refl _⟩
   case round =>
    obtain ⟨k, hk, rfl, hz, hbr⟩ := hrel
    by_cases hlt : k < xs.length
    · have hlt' : k < ys.length := by have := Hlen.out; omega
      obtain ⟨ad, u, rfl, hu, hc⟩ := (hx.bl hbr).at_ hlt
      obtain ⟨bd, t, rfl, ht, hd⟩ := (hy.bl hbr).at_ hlt'
      have hu' : u = Value.bool xs[k] := by simpa [hlt] using hu.symm
      have ht' : t = Value.bool ys[k] := by simpa [hlt'] using ht.symm
      subst hu' ht'
      have Hx := Lib.hid hx; have Hy := Lib.hid hy
      clear hx hy hu ht
      have i1 : (k : Int) < (xs.length : Int) := by omega
      have i2 : (k : Int) < (ys.length : Int) := by omega
      by_cases h0 : xs[k] = ys[k]
      · have hb : (xs[k] != ys[k]) = false := by simp [h0]
        have hzz : Hid (∀ j, j < k + 1 → xs[j]? = ys[j]?) := fun j hj => by
         rcases Nat.lt_or_ge j k with h | h
         · exact hz.out j h
         · obtain rfl : j = k := by omega
           simp [hlt, hlt', h0]
        generalize xs[k] = xk at *
        generalize ys[k] = yk at *
        subst h0
        clear hb
        cases xk
        all_goals
         go_wp2
         refine wp_region_flow [(true, 0), (true, 1), (true, 2), (true, 3), (true, 4), (true, 5), (true, 6), (true, 7), (true, 8)] (fun _ => false) (by kernel_rfl) (by kernel_rfl) (by kernel_rfl) (by kernel_rfl) ?_
         iterate 2
          apply Flow.mv _ rfl
          · intro K' hK'
            simp only [sqA, Act.eval, arr_getD, List.getD_cons_zero, List.getD_cons_succ]
            exact hK'
         iterate 2
          apply Flow.calm2 _ _ rfl rfl
          · intro w' hb' K' hK'
            obtain ⟨hc', hf'⟩ := hb'.rule
            go_simp
            try go_ints
            exact hK'
          · intro K' hK'
            simp only [sqA]
            exact hK'
         iterate 2
          apply Flow.mv _ rfl
          · intro K' hK'
            simp only [sqA, Act.eval, arr_getD, List.getD_cons_zero, List.getD_cons_succ]
            exact hK'
         iterate 3
          apply Flow.calm2 _ _ rfl rfl
          · intro w' hb' K' hK'
            obtain ⟨hc', hf'⟩ := hb'.rule
            go_simp
            try go_ints
            exact hK'
          · intro K' hK'
            simp only [sqA]
            exact hK'
         refine Flow.done ?_
         go_wp2
         exact ⟨⟨k + 1, hlt, by go_num, hzz, hbr.drew⟩, by simp [intOf]; omega⟩
      · have hb : (xs[k] != ys[k]) = true := by simp [h0]
        have hf : ¬ xs = ys := fun e => h0 (by subst e; rfl)
        have H0 := Lib.hid hf; clear hf
        generalize xs[k] = xk at *
        generalize ys[k] = yk at *
        clear hb
        cases xk <;> cases yk <;> first | (exact absurd rfl h0) | clear h0
        all_goals
         go_wp2
         refine wp_region_flow [(true, 0), (true, 1), (true, 2), (true, 3), (true, 4), (true, 5), (true, 6), (true, 7), (true, 8)] (fun _ => false) (by kernel_rfl) (by kernel_rfl) (by kernel_rfl) (by kernel_rfl) ?_
         iterate 2
          apply Flow.mv _ rfl
          · intro K' hK'
            simp only [sqA, Act.eval, arr_getD, List.getD_cons_zero, List.getD_cons_succ]
            exact hK'
         iterate 2
          apply Flow.calm2 _ _ rfl rfl
          · intro w' hb' K' hK'
            obtain ⟨hc', hf'⟩ := hb'.rule
            go_simp
            try go_ints
            exact hK'
          · intro K' hK'
            simp only [sqA]
            exact hK'
         iterate 2
          apply Flow.mv _ rfl
          · intro K' hK'
            simp only [sqA, Act.eval, arr_getD, List.getD_cons_zero, List.getD_cons_succ]
            exact hK'
         iterate 3
          apply Flow.calm2 _ _ rfl rfl
          · intro w' hb' K' hK'
            obtain ⟨hc', hf'⟩ := hb'.rule
            go_simp
            try go_ints
            exact hK'
          · intro K' hK'
            simp only [sqA]
            exact hK'
         refine Flow.done ?_
         go_wp2
         go_ret
         exact ⟨ret_bool (by simp [H0.out]), hbr.drew⟩
    · have hf : xs = ys := eq_of_cells xs ys Hlen.out (fun j hj => hz.out j (by omega))
      have Hf := Lib.hid hf; clear hf
      have Hx := Lib.hid hx; have Hy := Lib.hid hy
      clear hx hy
      go_wp2
      go_ret
      exact ⟨ret_bool (by simp [Hf.out]), hbr⟩
 · have hne : ((xs.length : Int) != (ys.length : Int)) = true := by simp; omega
   have hne2 : (xs.length != ys.length) = true := by simp; omega
   have hf : ¬ xs = ys := fun e => hlen (by subst e; rfl)
   have Hf := Lib.hid hf
   clear hlen hx hy hf
   go_enter Tryz.func62, Tryz.ntmps62
   go_wp2
   go_ret
   exact ⟨ret_bool (by simp [Hf.out]), Bl.refl _⟩

/-! The same page. -/
set_option maxRecDepth 100000 in
set_option maxHeartbeats 400000 in
theorem sameBits_any (W H : Nat) (v u : Value) (xs : List Bool) (w : World) (hv : IsPage w v W H (xs.map Value.bool)) (hu : IsPage w u W H (xs.map Value.bool)) (hl : W * H ≤ 1099511627776) :
 Calls Tryz.prog 24 #[v, u] w fun e w' => e = .returned (.bool true) ∧ Bl w w' := by
 obtain ⟨A, c, rfl, hA⟩ := hv
 obtain ⟨B, d, rfl, hB⟩ := hu
 have hn : xs.length = W * H := by have := hA.1; simpa using this
 have heq := fun (w1 : World) (hb : Bl w w1) => equalBits_any A B c d xs xs w1 (by rw [hn]; exact hA.bl hb) (by rw [hn]; exact hB.bl hb) (by omega)
 rw [hn] at heq
 have Heq := Lib.hid heq; clear heq
 have Hn := Lib.hid hn
 clear hA hB hn
 go_enter Tryz.func24, Tryz.ntmps24
 go_wp2_with fail
 refine (Heq.out _ (((Bl.refl _).alloc _).alloc _)).mono ?_
 rintro e w1 ⟨rfl, hb1⟩
 go_wp2_with fail
 go_ret
 exact ⟨ret_bool (by simp), (((Bl.refl _).alloc _).alloc _).trans hb1⟩

/-! Nothing at all. -/
set_option maxRecDepth 100000 in
set_option maxHeartbeats 400000 in
theorem noBits_zero (w : World) : Calls Tryz.prog 81 #[.agg #[.int .i64 0, .int .i64 0, .slice none 0 0]] w fun e w' => e = .returned (.bool true) ∧ Bl w w' := by
 go_enter Tryz.func81, Tryz.ntmps81
 go_wp2
 go_ret
 exact ⟨rfl, (Bl.refl _).alloc _⟩

/-! ### slices.Equal at byte -/
/-! The same page. -/
/-! Nothing at all. -/
/-! ### bitsIs -/
/-- A function value that makes a page. -/
def MakesPage (P : Program) (k : FuncId) (cap : Array Value) (w : World) (W H : Nat) (cells : List Value) : Prop :=
 (∀ args w, (callFunc k args).run P w = .ok (.enter k args) w) ∧ ∀ wx, Bl w wx → Calls P k cap wx fun e w' => ∃ v, e = .returned v ∧ IsPage w' v W H cells ∧ Bl wx w'

set_option maxRecDepth 100000 in
set_option maxHeartbeats 400000 in
theorem bitsIs_bad (want : Int) (f : Value) (w : World) (hw : want ≠ 0) :
 Calls Tryz.prog 31 #[.agg #[.int .i64 0, .int .i64 0, .slice none 0 0], .int .i64 want, .int .i64 want, f] w fun e w' => e = .returned (.bool true) ∧ Bl w w' := by
 have hq : (want != 0) = true := by simp [hw]
 clear hw
 go_enter Tryz.func31, Tryz.ntmps31
 go_wp2_with (go_at_call 81; refine (noBits_zero _).mono ?_; rintro e w1 ⟨rfl, hb1⟩)
 go_ret
 exact ⟨rfl, ((Bl.refl _).alloc _).trans hb1⟩

set_option maxRecDepth 100000 in
set_option maxHeartbeats 400000 in
theorem bitsIs_ok (W H : Nat) (v : Value) (xs : List Bool) (k : FuncId) (cap : Array Value) (w : World) (hv : IsPage w v W H (xs.map .bool)) (hk : MakesPage Tryz.prog k cap w W H (xs.map .bool)) (hl : W * H ≤ 1099511627776) :
 Calls Tryz.prog 31 #[v, .int .i64 0, .int .i64 0, .func (.func k) #[] cap] w fun e w' => e = .returned (.bool true) ∧ Bl w w' := by
 have hent := hk.1
 obtain ⟨A, c, rfl, hA⟩ := id hv
 have Hv := Lib.hid hv
 clear hv hA
 go_enter Tryz.func31, Tryz.ntmps31
 go_wp2_with fail
 refine wp_region_flow [(true, 0), (true, 1), (true, 2), (true, 3), (true, 4), (false, 5), (false, 6), (true, 7), (true, 8)] (fun _ => false) (by kernel_rfl) (by kernel_rfl) (by kernel_rfl) (by kernel_rfl) ?_
 iterate 1
  apply Flow.mv _ rfl
  · intro K' hK'
    simp only [sqA, Act.eval, arr_getD, List.getD_cons_zero, List.getD_cons_succ]
    exact hK'
 iterate 1
  apply Flow.calm2 _ _ rfl rfl
  · intro w' hb' K' hK'
    obtain ⟨hc', hf'⟩ := hb'.rule
    go_simp
    try go_ints
    exact hK'
  · intro K' hK'
    simp only [sqA]
    exact hK'
 iterate 1
  apply Flow.mv _ rfl
  · intro K' hK'
    simp only [sqA, Act.eval, arr_getD, List.getD_cons_zero, List.getD_cons_succ]
    exact hK'
 iterate 2
  first
   | (apply Flow.pass rfl (by rfl))
   | (apply Flow.calmG _ rfl (by rfl)
      · intro w' hb'
        obtain ⟨hc', hf'⟩ := hb'.rule
        go_simp
        all_goals (try rfl))
  simp only [sqA]
  try go_ints
 -- a guarded mover
 apply Flow.move rfl
 go_wp2_with fail
 have hk1 := hk.2 _ (((Bl.refl w).alloc (.cells #[.int .i64 W, .int .i64 H, .slice A (W * H) c] 24)).drew)
 refine hk1.mono ?_
 rintro e w1 ⟨u, rfl, hu, HB1⟩
 go_wp2_with fail
 refine ⟨fun _ => (by first | exact HB1 | exact Bl.refl _), ?_⟩
 -- a guarded mover
 apply Flow.move rfl
 go_wp2_with fail
 have hb2 : Bl w w1 := (((Bl.refl w).alloc _).drew).trans HB1
 refine (sameBits_any W H _ u xs w1 (Hv.out.bl hb2) hu hl).mono ?_
 rintro e w2 ⟨rfl, HB2⟩
 go_wp2_with fail
 refine ⟨fun _ => (by first | exact HB2 | exact Bl.refl _), ?_⟩
 iterate 1
  apply Flow.calm2 _ _ rfl rfl
  · intro w' hb' K' hK'
    obtain ⟨hc', hf'⟩ := hb'.rule
    go_simp
    try go_ints
    exact hK'
  · intro K' hK'
    simp only [sqA]
    exact hK'
 iterate 1
  apply Flow.asg _ rfl
  · intro K' hK'
    simp only [sqA, Act.eval, arr_getD, List.getD_cons_zero, List.getD_cons_succ]
    exact hK'
 refine Flow.done ?_
 go_wp2_with fail
 go_ret
 exact ⟨rfl, hb2.trans HB2⟩

end Go.Proofs.YthobmednnocklaaGreatDoor


/-! page.Means; slices.Equal of numbers; blank pages. -/
namespace Go.Proofs.YthobmednnocklaaGreatDoor
open Go.RowKit

/-- A byte list reads as bytes. -/
def Bytes (zs : List Int) : Prop := ∀ z ∈ zs, 0 ≤ z ∧ z ≤ 255
def valOf (zs : List Int) (i : Nat) : Int := zs.getD i 0
theorem Bytes.at {zs : List Int} (h : Bytes zs) (i : Nat) : 0 ≤ valOf zs i ∧ valOf zs i ≤ 255 := by
 unfold valOf
 rcases Nat.lt_or_ge i zs.length with hl | hl
 · have := h zs[i] (List.getElem_mem hl)
   simpa [List.getD, hl] using this
 · simp [List.getD, List.getElem?_eq_none hl]

end Go.Proofs.YthobmednnocklaaGreatDoor


/-! At, halving and pasting. -/
namespace Go.Proofs.YthobmednnocklaaGreatDoor
open Go.RowKit

/-! ### plain -/
/-- The ink at a place, also beyond the page. -/
def atI (bs : List Bool) (W H x y : Int) : Bool := decide (0 ≤ x ∧ x < W ∧ 0 ≤ y ∧ y < H) && bs.getD (y.toNat * W.toNat + x.toNat) false
def pix (bs : List Bool) (W x y : Nat) : Bool := bs.getD (y * W + x) false
theorem atI_in (bs : List Bool) (W H x y : Nat) (hx : x < W) (hy : y < H) : atI bs W H x y = pix bs W x y := by
 unfold atI pix
 have : decide (0 ≤ (x : Int) ∧ (x : Int) < W ∧ 0 ≤ (y : Int) ∧ (y : Int) < H) = true := by simp; omega
 rw [this]; simp
theorem atI_out (bs : List Bool) (W H x y : Int) (h : ¬ (0 ≤ x ∧ x < W ∧ 0 ≤ y ∧ y < H)) : atI bs W H x y = false := by
 unfold atI; simp only [h]; simp

/-- The cell of a place. -/
theorem Reads.place {w : World} {A : Option Addr} {W H : Nat} {bs : List Bool} (h : Reads w 1 A (W * H) (bs.map .bool)) {x y : Nat} (hx : x < W) (hy : y < H) :
 ∃ ad, A = some ad ∧ w.cell? (ad.add (y * W + x)) = some (.bool (pix bs W x y)) := by
 have hk := place_lt hx hy
 obtain ⟨ad, u, e, hu, hc⟩ := h.at_ hk
 refine ⟨ad, e, ?_⟩
 have hl : y * W + x < bs.length := by have := h.1; simp at this; omega
 have hu' : u = .bool (pix bs W x y) := by simpa [pix, List.getD, hl] using hu.symm
 rw [hc, hu']

/-! ### bedref2.At -/
set_option maxRecDepth 100000 in
set_option maxHeartbeats 1000000 in
theorem at_any (W H : Nat) (A : Option Addr) (c : Nat) (bs : List Bool) (x y : Int) (w : World) (hr : Reads w 1 A (W * H) (bs.map .bool)) (hW : W ≤ 4000) (hH : H ≤ 4000) :
 Calls Tryz.prog 47 #[.agg #[.int .i64 W, .int .i64 H, .slice A (W * H) c], .int .i64 x, .int .i64 y] w fun e w' => e = .returned (.bool (atI bs W H x y)) ∧ Bl w w' := by
 cases h1 : inB x 0 ((W : Int) - 1)
 case false =>
  have ha : atI bs W H x y = false := atI_out _ _ _ _ _ (by have := inB_false.1 h1; omega)
  have Ha := Lib.hid ha; clear ha hr
  go_enter Tryz.func47, Tryz.ntmps47
  go_wp2_with (go_at_call 12; refine (in_any _ _ _ _).mono ?_; rintro e w' ⟨rfl, rfl⟩)
  go_ret
  exact ⟨ret_bool Ha.out.symm, (Bl.refl _).alloc _⟩
 case true =>
  cases h2 : inB y 0 ((H : Int) - 1)
  case false =>
   have ha : atI bs W H x y = false := atI_out _ _ _ _ _ (by have := inB_false.1 h2; omega)
   have Ha := Lib.hid ha; clear ha hr
   go_enter Tryz.func47, Tryz.ntmps47
   go_wp2_with (go_at_call 12; refine (in_any _ _ _ _).mono ?_; rintro e w' ⟨rfl, rfl⟩)
   go_ret
   exact ⟨ret_bool Ha.out.symm, (Bl.refl _).alloc _⟩
  case true =>
   obtain ⟨a1, a2⟩ := inB_true.1 h1
   obtain ⟨b1, b2⟩ := inB_true.1 h2
   obtain ⟨x, rfl⟩ := Int.eq_ofNat_of_zero_le a1
   obtain ⟨y, rfl⟩ := Int.eq_ofNat_of_zero_le b1
   have hx : x < W := by omega
   have hy : y < H := by omega
   have ha := atI_in bs W H x y hx hy
   obtain ⟨ad, rfl, hc⟩ := hr.place hx hy
   have hk := place_lt hx hy
   obtain ⟨k, hkk⟩ : ∃ k, k = y * W + x := ⟨_, rfl⟩
   rw [← hkk] at hc hk
   have ek : (y : Int) * (W : Int) + (x : Int) = (k : Int) := by rw [hkk]; simp
   have hkl : (k : Int) < (W : Int) * (H : Int) := by have := Int.natCast_mul W H; omega
   have hq : (0 : Int) ≤ (y : Int) * (W : Int) ∧ (y : Int) * (W : Int) ≤ 16000000 := by
    have h5 := Int.natCast_mul y W
    have h6 := Nat.mul_le_mul (show y ≤ 4000 by omega) hW
    omega
   have hlt : ad.block < w.heap.size := by have := World.block_lt_of_cell? w _ hc; rwa [block_of_add] at this
   have hc' : ∀ o, (w.alloc o).cell? (ad.add k) = some (.bool (pix bs W x y)) := fun o => ((Bl.refl w).alloc o).at hc
   have Ha := Lib.hid ha; have Hkk := Lib.hid hkk
   clear ha hkk hr
   go_enter Tryz.func47, Tryz.ntmps47
   go_wp2_with (go_at_call 12; refine (in_any _ _ _ _).mono ?_; rintro e w' ⟨rfl, rfl⟩)
   go_ret
   exact ⟨ret_bool Ha.out.symm, (Bl.refl _).alloc _⟩

end Go.Proofs.YthobmednnocklaaGreatDoor


/-! A page and an error: both outcomes under one roof; pages as grids. -/
namespace Go.Proofs.YthobmednnocklaaGreatDoor
open Go.RowKit

/-- The page that a function answers with its error: made anew, or empty. -/
def Res (B : Nat) (w : World) (err : Int) (W H : Nat) (cells : List Value) (a b : Int) (R : Option Addr) (m c : Nat) : Prop :=
 (err = 0 → NPage B w (.agg #[.int .i64 a, .int .i64 b, .slice R m c]) W H cells) ∧ (err ≠ 0 → a = 0 ∧ b = 0 ∧ R = none ∧ m = 0 ∧ c = 0)
theorem Res.bl {B : Nat} {w w' : World} {err : Int} {W H : Nat} {cells : List Value} {a b : Int} {R : Option Addr} {m c : Nat} (h : Res B w err W H cells a b R m c) (hb : Bl w w') : Res B w' err W H cells a b R m c :=
 ⟨fun e => (h.1 e).bl hb, h.2⟩
theorem Res.mono {B B' : Nat} {w : World} {err : Int} {W H : Nat} {cells : List Value} {a b : Int} {R : Option Addr} {m c : Nat} (h : Res B w err W H cells a b R m c) (hb : B' ≤ B) : Res B' w err W H cells a b R m c :=
 ⟨fun e => (h.1 e).mono hb, h.2⟩
theorem Res.zero (B : Nat) (w : World) {err : Int} (W H : Nat) (cells : List Value) (h : err ≠ 0) : Res B w err W H cells 0 0 none 0 0 :=
 ⟨fun e => absurd e h, fun _ => ⟨rfl, rfl, rfl, rfl, rfl⟩⟩
theorem Res.page {B : Nat} {w : World} {err : Int} {W H c : Nat} {R : Option Addr} {cells : List Value} (h : err = 0) (hr : Reads w 1 R (W * H) cells) (hn : ∀ ad, R = some ad → B ≤ ad.block) : Res B w err W H cells W H R (W * H) c :=
 ⟨fun _ => ⟨R, c, rfl, hr, hn⟩, fun e => absurd h e⟩

theorem MakesPage.bl {P : Program} {k : FuncId} {cap : Array Value} {w w' : World} {W H : Nat} {cells : List Value} (h : MakesPage P k cap w W H cells) (hb : Bl w w') : MakesPage P k cap w' W H cells :=
 ⟨h.1, fun wx hx => h.2 wx (hb.trans hx)⟩

theorem bitsIs_any (B : Nat) (err : Int) (W H : Nat) (xs : List Bool) (a b : Int) (R : Option Addr) (m c : Nat) (k : FuncId) (cap : Array Value) (w : World) (hv : Res B w err W H (xs.map .bool) a b R m c) (hk : err = 0 → MakesPage Tryz.prog k cap w W H (xs.map .bool)) (hl : err = 0 → W * H ≤ 1099511627776) :
 Calls Tryz.prog 31 #[.agg #[.int .i64 a, .int .i64 b, .slice R m c], .int .i64 err, .int .i64 err, .func (.func k) #[] cap] w fun e w' => e = .returned (.bool true) ∧ Bl w w' := by
 by_cases h : err = 0
 · have hp := hv.1 h
   have hm := hk h
   subst h
   exact bitsIs_ok W H _ xs k cap w hp.is hm (hl rfl)
 · obtain ⟨rfl, rfl, rfl, rfl, rfl⟩ := hv.2 h
   exact bitsIs_bad err _ w h

/-! ### grids -/
/-! ### turned by quarters -/
theorem Res.store {B : Nat} {w : World} {err : Int} {W H : Nat} {cells : List Value} {a b : Int} {R : Option Addr} {m c : Nat} (h : Res B w err W H cells a b R m c) {p : Addr} (hp : p.block < B) (u : Value) : Res B (w.setCell p u) err W H cells a b R m c :=
 ⟨fun e => (h.1 e).store hp u, h.2⟩

end Go.Proofs.YthobmednnocklaaGreatDoor


/-! Sums of numbers, tables of numbers in memory. -/
namespace Go.Proofs.YthobmednnocklaaGreatDoor
open Go.RowKit

/-! ### sums -/
def sumN (f : Nat → Nat) : Nat → Nat
 | 0 => 0
 | n + 1 => sumN f n + f n
theorem sumN_congr {f g : Nat → Nat} : ∀ {n : Nat}, (∀ i, i < n → f i = g i) → sumN f n = sumN g n
 | 0, _ => rfl
 | n + 1, h => by
  unfold sumN
  rw [sumN_congr (n := n) (fun i hi => h i (by omega)), h n (by omega)]
theorem sumN_split (f : Nat → Nat) (m n : Nat) : sumN f (m + n) = sumN f m + sumN (fun i => f (m + i)) n := by
 induction n with
 | zero => rfl
 | succ n ih => rw [← Nat.add_assoc]; simp only [sumN, ih]; omega
theorem sumN_flat (g : Nat → Nat) (W H : Nat) : sumN g (H * W) = sumN (fun y => sumN (fun x => g (y * W + x)) W) H := by
 induction H with
 | zero => simp [sumN]
 | succ H ih => rw [Nat.add_mul, Nat.one_mul, sumN_split, ih]; rfl
theorem sumN_le {f : Nat → Nat} {c : Nat} (h : ∀ i, f i ≤ c) (n : Nat) : sumN f n ≤ n * c := by
 induction n with
 | zero => simp [sumN]
 | succ n ih => have := h n; simp only [sumN, Nat.add_mul]; omega
/-! ### a table of numbers in memory -/
def tabI (N : Nat) (f : Nat → Int) : Array Value := ((List.range N).map fun k => Value.int .i64 (f k)).toArray
theorem tabI_size (N : Nat) (f : Nat → Int) : (tabI N f).size = N := by simp [tabI]
theorem tabI_get {N : Nat} (f : Nat → Int) {k : Nat} (h : k < N) : (tabI N f)[k]? = some (.int .i64 (f k)) := by simp [tabI, h]
theorem tabI_congr {N : Nat} {f g : Nat → Int} (h : ∀ k, k < N → f k = g k) : tabI N f = tabI N g := by
 unfold tabI
 congr 1
 exact List.map_congr_left fun k hk => by rw [h k (List.mem_range.1 hk)]
theorem tabI_set {N : Nat} {f g : Nat → Int} {a : Nat} {v : Int} (hg : ∀ k, k < N → g k = if k = a then v else f k) : (tabI N f).setIfInBounds a (.int .i64 v) = tabI N g := by
 apply Array.ext_getElem?
 intro i
 rcases Nat.lt_or_ge i N with h | h
 · rw [tabI_get g h, hg i h]
   by_cases e : a = i
   · subst e
     simp [tabI, h]
   · rw [Array.getElem?_setIfInBounds_ne e, tabI_get f h, if_neg (fun e' => e e'.symm)]
 · rw [Array.getElem?_eq_none (by simp [tabI_size]; exact h), Array.getElem?_eq_none (by rw [tabI_size]; exact h)]
theorem tabI_made (N : Nat) : madeCells #[.int .i64 0] N = tabI N (fun _ => 0) := by
 apply Array.ext_getElem?
 intro i
 rcases Nat.lt_or_ge i N with h | h
 · rw [tabI_get _ h]; simp [madeCells, h, Nat.mod_one]
 · rw [Array.getElem?_eq_none (by rw [size_madeCells]; exact h), Array.getElem?_eq_none (by rw [tabI_size]; exact h)]
def tabL (N : Nat) (f : Nat → Int) : List Int := (List.range N).map f
theorem tabL_len (N : Nat) (f : Nat → Int) : (tabL N f).length = N := by simp [tabL]
theorem tabL_get {N : Nat} (f : Nat → Int) {k : Nat} (h : k < N) : (tabL N f)[k]? = some (f k) := by simp [tabL, h]
theorem Blk.tabReads {w : World} {g : Nat} {t : TypeId} {N : Nat} {f : Nat → Int} (h : Blk w g t (tabI N f)) : Reads w 1 (some ⟨g, 0, none⟩) N ((tabL N f).map (.int .i64)) := by
 have := h.reads N 1 (by rw [tabI_size]; omega)
 have e : (tabI N f).toList = (tabL N f).map (.int .i64) := by simp [tabI, tabL, Function.comp_def]
 rwa [e] at this
theorem Blk.tabAt {w : World} {g : Nat} {t : TypeId} {N : Nat} {f : Nat → Int} (h : Blk w g t (tabI N f)) {k : Nat} (hk : k < N) : w.cell? ⟨g, k, none⟩ = some (.int .i64 (f k)) := (h.cell k).trans (tabI_get f hk)
theorem Blk.tabSet {w : World} {g : Nat} {t : TypeId} {N : Nat} {f f' : Nat → Int} (h : Blk w g t (tabI N f)) (a : Nat) (v : Int) (hg : ∀ k, k < N → f' k = if k = a then v else f k) : Blk (w.setCell ⟨g, a, none⟩ (.int .i64 v)) g t (tabI N f') := by
 have := h.set_ a (.int .i64 v)
 rwa [tabI_set hg] at this
end Go.Proofs.YthobmednnocklaaGreatDoor


/-! The plain law of leaning and of profiles. -/
namespace Go.Proofs.YthobmednnocklaaGreatDoor
open Go.RowKit

/-! ### a number that leans -/
def shiftI (n : Int) : Int := if n < 0 then -roundI (-n) 1024 else roundI n 1024
def leanI (W : Nat) (n : Int) (x : Nat) : Int := shiftI (n * ((x : Int) - ((W : Int) - 1) / 2))
/-! ### places of ink -/
def spotL (bs : List Bool) : Nat → List Nat
 | 0 => []
 | m + 1 => spotL bs m ++ (if bs.getD m false then [m] else [])
def b1 (b : Bool) : Nat := if b then 1 else 0
/-- The place in the profile. -/
def profAt (W H : Nat) (n : Int) (i : Nat) : Int := ((H / 2 : Nat) : Int) + ((i / W : Nat) : Int) + leanI W n (i % W)
def profK (W H : Nat) (n : Int) (k i : Nat) : Bool := decide (profAt W H n i = (k : Int))
/-- How much ink row k of the profile has. -/
def profN (bs : List Bool) (W H : Nat) (n : Int) (k : Nat) : Nat := sumN (fun i => b1 (bs.getD i false && profK W H n k i)) (W * H)
end Go.Proofs.YthobmednnocklaaGreatDoor


/-! The plain law of ink that is moved place by place. -/
namespace Go.Proofs.YthobmednnocklaaGreatDoor
open Go.RowKit

/-! ### a table of bools in memory -/
def tabB (N : Nat) (f : Nat → Bool) : Array Value := ((List.range N).map fun k => Value.bool (f k)).toArray
theorem tabB_size (N : Nat) (f : Nat → Bool) : (tabB N f).size = N := by simp [tabB]
theorem tabB_get {N : Nat} (f : Nat → Bool) {k : Nat} (h : k < N) : (tabB N f)[k]? = some (.bool (f k)) := by simp [tabB, h]
theorem tabB_congr {N : Nat} {f g : Nat → Bool} (h : ∀ k, k < N → f k = g k) : tabB N f = tabB N g := by
 unfold tabB
 congr 1
 exact List.map_congr_left fun k hk => by rw [h k (List.mem_range.1 hk)]
theorem tabB_set {N : Nat} {f g : Nat → Bool} {a : Nat} {v : Bool} (hg : ∀ k, k < N → g k = if k = a then v else f k) : (tabB N f).setIfInBounds a (.bool v) = tabB N g := by
 apply Array.ext_getElem?
 intro i
 rcases Nat.lt_or_ge i N with h | h
 · rw [tabB_get g h, hg i h]
   by_cases e : a = i
   · subst e
     simp [tabB, h]
   · rw [Array.getElem?_setIfInBounds_ne e, tabB_get f h, if_neg (fun e' => e e'.symm)]
 · rw [Array.getElem?_eq_none (by simp [tabB_size]; exact h), Array.getElem?_eq_none (by rw [tabB_size]; exact h)]
theorem tabB_made (N : Nat) : madeCells #[.bool false] N = tabB N (fun _ => false) := by
 apply Array.ext_getElem?
 intro i
 rcases Nat.lt_or_ge i N with h | h
 · rw [tabB_get _ h]; simp [madeCells, h, Nat.mod_one]
 · rw [Array.getElem?_eq_none (by rw [size_madeCells]; exact h), Array.getElem?_eq_none (by rw [tabB_size]; exact h)]
theorem Blk.tabReadsB {w : World} {g : Nat} {t : TypeId} {N : Nat} {f : Nat → Bool} (h : Blk w g t (tabB N f)) : Reads w 1 (some ⟨g, 0, none⟩) N (((List.range N).map f).map .bool) := by
 have := h.reads N 1 (by rw [tabB_size]; omega)
 have e : (tabB N f).toList = ((List.range N).map f).map .bool := by simp [tabB, Function.comp_def]
 rwa [e] at this
theorem Blk.tabAtB {w : World} {g : Nat} {t : TypeId} {N : Nat} {f : Nat → Bool} (h : Blk w g t (tabB N f)) {k : Nat} (hk : k < N) : w.cell? ⟨g, k, none⟩ = some (.bool (f k)) := (h.cell k).trans (tabB_get f hk)
theorem Blk.tabSetB {w : World} {g : Nat} {t : TypeId} {N : Nat} {f f' : Nat → Bool} (h : Blk w g t (tabB N f)) (a : Nat) (v : Bool) (hg : ∀ k, k < N → f' k = if k = a then v else f k) : Blk (w.setCell ⟨g, a, none⟩ (.bool v)) g t (tabB N f') := by
 have := h.set_ a (.bool v)
 rwa [tabB_set hg] at this

/-! ### moving -/
theorem place_parts {W H k : Nat} (hk : k < W * H) : k % W < W ∧ k / W < H ∧ (k / W) * W + k % W = k := by
 have hW : 0 < W := by rcases Nat.eq_zero_or_pos W with h0 | h0; (subst h0; simp at hk); exact h0
 exact ⟨Nat.mod_lt _ hW, Nat.div_lt_of_lt_mul hk, by have := Nat.div_add_mod k W; rw [Nat.mul_comm] at this; exact this⟩
theorem at_parts {W x : Nat} (y : Nat) (hx : x < W) : (y * W + x) % W = x ∧ (y * W + x) / W = y :=
 ⟨by rw [Nat.mul_comm, Nat.mul_add_mod, Nat.mod_eq_of_lt hx], by rw [Nat.mul_comm, Nat.mul_add_div (by omega), Nat.div_eq_of_lt hx, Nat.add_zero]⟩
end Go.Proofs.YthobmednnocklaaGreatDoor


/-! The plain law of counts and of bounds. -/
namespace Go.Proofs.YthobmednnocklaaGreatDoor
open Go.RowKit

/-! ### counts -/
theorem b1_le (b : Bool) : b1 b ≤ 1 := by unfold b1; split <;> omega
def rowN (bs : List Bool) (W y : Nat) : Nat := sumN (fun x => b1 (pix bs W x y)) W
def colN (bs : List Bool) (W H x : Nat) : Nat := sumN (fun y => b1 (pix bs W x y)) H
def cntBy (bs : List Bool) (num : Nat → Nat) (m k : Nat) : Nat := sumN (fun i => b1 (bs.getD i false && decide (num i = k))) m
theorem cntBy_succ (bs : List Bool) (num : Nat → Nat) (m k : Nat) : cntBy bs num (m + 1) k = cntBy bs num m k + b1 (bs.getD m false && decide (num m = k)) := rfl
theorem cntBy_le (bs : List Bool) (num : Nat → Nat) (m k : Nat) : cntBy bs num m k ≤ m := by
 have := sumN_le (f := fun i => b1 (bs.getD i false && decide (num i = k))) (c := 1) (fun i => b1_le _) m
 simpa [cntBy] using this
theorem sumN_pick (f : Nat → Nat) (n k : Nat) : sumN (fun y => if y = k then f y else 0) n = if k < n then f k else 0 := by
 induction n with
 | zero => simp [sumN]
 | succ n ih =>
  simp only [sumN, ih]
  by_cases h : n = k
  · subst h
    rw [if_neg (by omega), if_pos rfl, if_pos (by omega)]; omega
  · rw [if_neg h]
    by_cases h2 : k < n
    · rw [if_pos h2, if_pos (by omega)]; omega
    · rw [if_neg h2, if_neg (by omega)]
theorem cntBy_cols (bs : List Bool) (W H k : Nat) (hk : k < W) : cntBy bs (fun i => i % W) (W * H) k = colN bs W H k := by
 unfold cntBy
 rw [Nat.mul_comm, sumN_flat]
 refine sumN_congr fun y _ => ?_
 have e : ∀ x, x < W → b1 (bs.getD (y * W + x) false && decide ((y * W + x) % W = k)) = if x = k then b1 (pix bs W x y) else 0 := by
  intro x hx
  rw [(at_parts y hx).1]
  by_cases h : x = k
  · rw [if_pos h, decide_eq_true h, Bool.and_true]; rfl
  · rw [if_neg h, decide_eq_false h, Bool.and_false]; rfl
 rw [sumN_congr e, sumN_pick (fun x => b1 (pix bs W x y)), if_pos hk]
/-- Ink in a box. -/
def inkN (bs : List Bool) (W X Y BW BH : Nat) : Nat := sumN (fun j => sumN (fun i => b1 (pix bs W (X + i) (Y + j))) BW) BH
theorem ink_col (bs : List Bool) (W H x : Nat) : inkN bs W x 0 1 H = colN bs W H x := by
 unfold inkN colN
 simp [sumN]
theorem sumN_pos (f : Nat → Nat) : ∀ n, 0 < sumN f n ↔ ∃ i, i < n ∧ 0 < f i
 | 0 => by simp [sumN]
 | n + 1 => by
  have ih := sumN_pos f n
  simp only [sumN]
  constructor
  · intro h
    by_cases h2 : 0 < f n
    · exact ⟨n, by omega, h2⟩
    · obtain ⟨i, hi, h3⟩ := ih.1 (by omega)
      exact ⟨i, by omega, h3⟩
  · rintro ⟨i, hi, h3⟩
    by_cases h2 : i = n
    · subst h2; omega
    · have := ih.2 ⟨i, by omega, h3⟩; omega
theorem b1_pos (b : Bool) : 0 < b1 b ↔ b = true := by cases b <;> simp [b1]
theorem rowN_pos (bs : List Bool) (W y : Nat) : 0 < rowN bs W y ↔ ∃ x, x < W ∧ pix bs W x y = true := by
 unfold rowN; rw [sumN_pos]; simp only [b1_pos]
theorem colN_pos (bs : List Bool) (W H x : Nat) : 0 < colN bs W H x ↔ ∃ y, y < H ∧ pix bs W x y = true := by
 unfold colN; rw [sumN_pos]; simp only [b1_pos]

/-! ### ends -/
def Ends (f : Nat → Nat) (N x r : Nat) : Prop := (x < N ∧ 0 < f x ∧ ∀ j, j < x → f j = 0) ∧ (r < N ∧ 0 < f r ∧ ∀ j, r < j → j < N → f j = 0)
def NoEnds (f : Nat → Nat) (N : Nat) : Prop := ∀ j, j < N → f j = 0
theorem Ends.same {f : Nat → Nat} {N x r x' r' : Nat} (h : Ends f N x r) (k : Ends f N x' r') : x = x' ∧ r = r' := by
 obtain ⟨⟨h1, h2, h3⟩, h4, h5, h6⟩ := h
 obtain ⟨⟨k1, k2, k3⟩, k4, k5, k6⟩ := k
 constructor
 · rcases Nat.lt_trichotomy x x' with c | c | c
   · have := k3 x c; omega
   · exact c
   · have := h3 x' c; omega
 · rcases Nat.lt_trichotomy r r' with c | c | c
   · have := h6 r' c k4; omega
   · exact c
   · have := k6 r c h4; omega
theorem Ends.not {f : Nat → Nat} {N x r : Nat} (h : Ends f N x r) (k : NoEnds f N) : False := by
 have := k x h.1.1
 have := h.1.2.1
 omega

/-! ### bounds -/
def BoundsIs (bs : List Bool) (W H : Nat) (is : Bool) (X Y BW BH : Int) : Prop :=
 (is = false ∧ NoEnds (colN bs W H) W ∧ X = 0 ∧ Y = 0 ∧ BW = 0 ∧ BH = 0) ∨
 (is = true ∧ ∃ l r t b : Nat, Ends (colN bs W H) W l r ∧ Ends (rowN bs W) H t b ∧ X = l ∧ Y = t ∧ BW = (r : Int) - l + 1 ∧ BH = (b : Int) - t + 1)
theorem BoundsIs.same {bs : List Bool} {W H : Nat} {is is' : Bool} {X Y BW BH X' Y' BW' BH' : Int} (h : BoundsIs bs W H is X Y BW BH) (k : BoundsIs bs W H is' X' Y' BW' BH') : is = is' ∧ X = X' ∧ Y = Y' ∧ BW = BW' ∧ BH = BH' := by
 rcases h with ⟨h1, h2, h3, h4, h5, h6⟩ | ⟨h1, l, r, t, b, h2, h3, h4, h5, h6, h7⟩ <;> rcases k with ⟨k1, k2, k3, k4, k5, k6⟩ | ⟨k1, l', r', t', b', k2, k3, k4, k5, k6, k7⟩
 · exact ⟨by rw [h1, k1], by omega, by omega, by omega, by omega⟩
 · exact (k2.not h2).elim
 · exact (h2.not k2).elim
 · obtain ⟨e1, e2⟩ := h2.same k2
   obtain ⟨e3, e4⟩ := h3.same k3
   exact ⟨by rw [h1, k1], by omega, by omega, by omega, by omega⟩
theorem BoundsIs.bd {bs : List Bool} {W H : Nat} {is : Bool} {X Y BW BH : Int} (h : BoundsIs bs W H is X Y BW BH) : (0 ≤ X ∧ X ≤ W) ∧ (0 ≤ Y ∧ Y ≤ H) ∧ (0 ≤ BW ∧ BW ≤ W) ∧ (0 ≤ BH ∧ BH ≤ H) ∧ (is = true → X + BW ≤ W ∧ Y + BH ≤ H ∧ 1 ≤ BW ∧ 1 ≤ BH) := by
 rcases h with ⟨h1, h2, h3, h4, h5, h6⟩ | ⟨h1, l, r, t, b, h2, h3, h4, h5, h6, h7⟩
 · refine ⟨by omega, by omega, by omega, by omega, fun h => ?_⟩
   rw [h1] at h; cases h
 · have a1 := h2.1.1
   have a2 := h2.2.1
   have a3 := h3.1.1
   have a4 := h3.2.1
   have a5 : l ≤ r := by
    rcases Nat.lt_or_ge r l with c | c
    · have := h2.1.2.2 r c; have := h2.2.2.1; omega
    · exact c
   have a6 : t ≤ b := by
    rcases Nat.lt_or_ge b t with c | c
    · have := h3.1.2.2 b c; have := h3.2.2.1; omega
    · exact c
   exact ⟨by omega, by omega, by omega, by omega, fun _ => by omega⟩

/-- The bounds so far. -/
def BInv (bs : List Bool) (W H m : Nat) (l t r b : Int) : Prop :=
 ((∀ i, i < m → bs.getD i false = false) ∧ l = W ∧ t = H ∧ r = -1 ∧ b = -1) ∨
 ((∃ i, i < m ∧ bs.getD i false = true ∧ l = ((i % W : Nat) : Int)) ∧ (∃ i, i < m ∧ bs.getD i false = true ∧ t = ((i / W : Nat) : Int)) ∧ (∃ i, i < m ∧ bs.getD i false = true ∧ r = ((i % W : Nat) : Int)) ∧ (∃ i, i < m ∧ bs.getD i false = true ∧ b = ((i / W : Nat) : Int)) ∧
   ∀ i, i < m → bs.getD i false = true → l ≤ ((i % W : Nat) : Int) ∧ ((i % W : Nat) : Int) ≤ r ∧ t ≤ ((i / W : Nat) : Int) ∧ ((i / W : Nat) : Int) ≤ b)
theorem BInv.start (bs : List Bool) (W H : Nat) : BInv bs W H 0 W H (-1) (-1) := Or.inl ⟨fun i hi => by omega, rfl, rfl, rfl, rfl⟩
theorem BInv.no {bs : List Bool} {W H m : Nat} {l t r b : Int} (h : BInv bs W H m l t r b) (hm : bs.getD m false = false) : BInv bs W H (m + 1) l t r b := by
 rcases h with ⟨h1, h2⟩ | ⟨⟨i1, a1, b1', c1⟩, ⟨i2, a2, b2, c2⟩, ⟨i3, a3, b3, c3⟩, ⟨i4, a4, b4, c4⟩, h5⟩
 · refine Or.inl ⟨fun i hi => ?_, h2⟩
   rcases Nat.lt_or_ge i m with c | c
   · exact h1 i c
   · obtain rfl : i = m := by omega
     exact hm
 · refine Or.inr ⟨⟨i1, by omega, b1', c1⟩, ⟨i2, by omega, b2, c2⟩, ⟨i3, by omega, b3, c3⟩, ⟨i4, by omega, b4, c4⟩, fun i hi hb => ?_⟩
   rcases Nat.lt_or_ge i m with c | c
   · exact h5 i c hb
   · obtain rfl : i = m := by omega
     rw [hm] at hb; cases hb
theorem BInv.yes {bs : List Bool} {W H m : Nat} {l t r b : Int} (h : BInv bs W H m l t r b) (hm : bs.getD m false = true) (hx : m % W < W) (hy : m / W < H) {l' t' r' b' : Int}
 (el : l' = if ((m % W : Nat) : Int) < l then ((m % W : Nat) : Int) else l) (et : t' = if ((m / W : Nat) : Int) < t then ((m / W : Nat) : Int) else t)
 (er : r' = if r < ((m % W : Nat) : Int) then ((m % W : Nat) : Int) else r) (eb : b' = if b < ((m / W : Nat) : Int) then ((m / W : Nat) : Int) else b) : BInv bs W H (m + 1) l' t' r' b' := by
 obtain ⟨x, hx'⟩ : ∃ x, x = m % W := ⟨_, rfl⟩
 obtain ⟨y, hy'⟩ : ∃ y, y = m / W := ⟨_, rfl⟩
 rw [← hx'] at el er hx
 rw [← hy'] at et eb hy
 rcases h with ⟨h1, rfl, rfl, rfl, rfl⟩ | ⟨⟨i1, a1, b1', c1⟩, ⟨i2, a2, b2, c2⟩, ⟨i3, a3, b3, c3⟩, ⟨i4, a4, b4, c4⟩, h5⟩
 · rw [if_pos (by omega)] at el et er eb
   refine Or.inr ⟨⟨m, by omega, hm, by rw [← hx']; exact el⟩, ⟨m, by omega, hm, by rw [← hy']; exact et⟩, ⟨m, by omega, hm, by rw [← hx']; exact er⟩, ⟨m, by omega, hm, by rw [← hy']; exact eb⟩, fun i hi hb => ?_⟩
   rcases Nat.lt_or_ge i m with c | c
   · rw [h1 i c] at hb; cases hb
   · obtain rfl : i = m := by omega
     rw [← hx', ← hy']; omega
 · refine Or.inr ⟨?_, ?_, ?_, ?_, fun i hi hb => ?_⟩
   · by_cases c : (x : Int) < l
     · rw [if_pos c] at el; exact ⟨m, by omega, hm, by rw [← hx']; exact el⟩
     · rw [if_neg c] at el; exact ⟨i1, by omega, b1', by rw [el]; exact c1⟩
   · by_cases c : (y : Int) < t
     · rw [if_pos c] at et; exact ⟨m, by omega, hm, by rw [← hy']; exact et⟩
     · rw [if_neg c] at et; exact ⟨i2, by omega, b2, by rw [et]; exact c2⟩
   · by_cases c : r < (x : Int)
     · rw [if_pos c] at er; exact ⟨m, by omega, hm, by rw [← hx']; exact er⟩
     · rw [if_neg c] at er; exact ⟨i3, by omega, b3, by rw [er]; exact c3⟩
   · by_cases c : b < (y : Int)
     · rw [if_pos c] at eb; exact ⟨m, by omega, hm, by rw [← hy']; exact eb⟩
     · rw [if_neg c] at eb; exact ⟨i4, by omega, b4, by rw [eb]; exact c4⟩
   · have key : (l' ≤ l ∧ l' ≤ x) ∧ (t' ≤ t ∧ t' ≤ y) ∧ (r ≤ r' ∧ (x : Int) ≤ r') ∧ (b ≤ b' ∧ (y : Int) ≤ b') := by
      refine ⟨?_, ?_, ?_, ?_⟩
      · split at el <;> omega
      · split at et <;> omega
      · split at er <;> omega
      · split at eb <;> omega
     rcases Nat.lt_or_ge i m with c | c
     · have := h5 i c hb; omega
     · obtain rfl : i = m := by omega
       rw [← hx', ← hy']; omega
theorem BInv.bd {bs : List Bool} {W H m : Nat} {l t r b : Int} (h : BInv bs W H m l t r b) (hm : m ≤ W * H) : (0 ≤ l ∧ l ≤ W) ∧ (0 ≤ t ∧ t ≤ H) ∧ (-1 ≤ r ∧ r < W) ∧ (-1 ≤ b ∧ b < H) := by
 have hp : ∀ i, i < m → i % W < W ∧ i / W < H := fun i hi => by
  obtain ⟨a, b, _⟩ := place_parts (show i < W * H by omega)
  exact ⟨a, b⟩
 rcases h with ⟨h1, rfl, rfl, rfl, rfl⟩ | ⟨⟨i1, a1, b1', c1⟩, ⟨i2, a2, b2, c2⟩, ⟨i3, a3, b3, c3⟩, ⟨i4, a4, b4, c4⟩, h5⟩
 · omega
 · have p1 := (hp i1 a1).1; have p2 := (hp i2 a2).2; have p3 := (hp i3 a3).1; have p4 := (hp i4 a4).2
   clear h5 hp
   generalize i1 % W = x1 at c1 p1
   generalize i2 / W = y2 at c2 p2
   generalize i3 % W = x3 at c3 p3
   generalize i4 / W = y4 at c4 p4
   omega
theorem pix_place {bs : List Bool} {W H i : Nat} (hi : i < W * H) : pix bs W (i % W) (i / W) = bs.getD i false := by
 unfold pix; rw [(place_parts hi).2.2]
/-- What comes out. -/
theorem BInv.done {bs : List Bool} {W H : Nat} {l t r b : Int} (h : BInv bs W H (W * H) l t r b) :
 (r < 0 ∧ BoundsIs bs W H false 0 0 0 0) ∨ (¬ r < 0 ∧ BoundsIs bs W H true l t (r - l + 1) (b - t + 1)) := by
 rcases h with ⟨h1, rfl, rfl, rfl, rfl⟩ | ⟨⟨i1, a1, b1', c1⟩, ⟨i2, a2, b2, c2⟩, ⟨i3, a3, b3, c3⟩, ⟨i4, a4, b4, c4⟩, h5⟩
 · refine Or.inl ⟨by omega, Or.inl ⟨rfl, fun x hx => ?_, rfl, rfl, rfl, rfl⟩⟩
   rcases Nat.eq_zero_or_pos (colN bs W H x) with e | e
   · exact e
   · obtain ⟨y, hy, hp⟩ := (colN_pos bs W H x).1 e
     have := h1 (y * W + x) (place_lt hx hy)
     unfold pix at hp
     rw [this] at hp; cases hp
 · have q1 := place_parts a1; have q2 := place_parts a2; have q3 := place_parts a3; have q4 := place_parts a4
   have all : ∀ x y, x < W → y < H → pix bs W x y = true → l ≤ x ∧ (x : Int) ≤ r ∧ t ≤ y ∧ (y : Int) ≤ b := fun x y hx hy hp => by
    have := h5 (y * W + x) (place_lt hx hy) hp
    rwa [(at_parts y hx).1, (at_parts y hx).2] at this
   refine Or.inr ⟨by omega, Or.inr ⟨rfl, i1 % W, i3 % W, i2 / W, i4 / W, ⟨⟨q1.1, (colN_pos _ _ _ _).2 ⟨i1 / W, q1.2.1, by rw [pix_place a1]; exact b1'⟩, fun j hj => ?_⟩, q3.1, (colN_pos _ _ _ _).2 ⟨i3 / W, q3.2.1, by rw [pix_place a3]; exact b3⟩, fun j hj hj2 => ?_⟩,
    ⟨⟨q2.2.1, (rowN_pos _ _ _).2 ⟨i2 % W, q2.1, by rw [pix_place a2]; exact b2⟩, fun j hj => ?_⟩, q4.2.1, (rowN_pos _ _ _).2 ⟨i4 % W, q4.1, by rw [pix_place a4]; exact b4⟩, fun j hj hj2 => ?_⟩, c1, c2, by rw [c1, c3], by rw [c2, c4]⟩⟩
   · rcases Nat.eq_zero_or_pos (colN bs W H j) with e | e
     · exact e
     · obtain ⟨y, hy, hp⟩ := (colN_pos bs W H j).1 e
       have := all j y (by omega) hy hp; omega
   · rcases Nat.eq_zero_or_pos (colN bs W H j) with e | e
     · exact e
     · obtain ⟨y, hy, hp⟩ := (colN_pos bs W H j).1 e
       have := all j y (by omega) hy hp; omega
   · rcases Nat.eq_zero_or_pos (rowN bs W j) with e | e
     · exact e
     · obtain ⟨x, hx, hp⟩ := (rowN_pos bs W j).1 e
       have := all x j hx (by omega) hp; omega
   · rcases Nat.eq_zero_or_pos (rowN bs W j) with e | e
     · exact e
     · obtain ⟨x, hx, hp⟩ := (rowN_pos bs W j).1 e
       have := all x j hx (by omega) hp; omega

/-! ### values -/
end Go.Proofs.YthobmednnocklaaGreatDoor


/-! The plain law of fonts: what is wrong with one; how letters lie in memory. -/
namespace Go.Proofs.YthobmednnocklaaGreatDoor
open Go.RowKit

/-- A letter: its text, its page's size, where the page's pixels lie, and what they are. -/
structure Ltr where
 text : List UInt8
 W : Int
 H : Int
 A : Option Addr
 m : Nat
 c : Nat
 bs : List Bool
def Ltr.cells (l : Ltr) : List Value := [.string ⟨l.text.toArray⟩, .int .i64 l.W, .int .i64 l.H, .slice l.A l.m l.c]
def ltrCells (ls : List Ltr) : List Value := ls.flatMap Ltr.cells
theorem ltrCells_len (ls : List Ltr) : (ltrCells ls).length = ls.length * 4 := by
 unfold ltrCells
 induction ls with
 | nil => rfl
 | cons l ls ih =>
  rw [List.flatMap_cons, List.length_append, ih, List.length_cons]
  show 4 + ls.length * 4 = (ls.length + 1) * 4
  omega
theorem ltrCells_append (a b : List Ltr) : ltrCells (a ++ b) = ltrCells a ++ ltrCells b := by unfold ltrCells; rw [List.flatMap_append]
theorem ltrCells_at {ls : List Ltr} {i : Nat} {l : Ltr} (h : ls[i]? = some l) (j : Nat) (hj : j < 4) : (ltrCells ls)[i * 4 + j]? = l.cells[j]? := by
 induction ls generalizing i with
 | nil => simp at h
 | cons x ls ih =>
  unfold ltrCells
  rw [List.flatMap_cons]
  rcases i with _ | i
  · simp only [List.getElem?_cons_zero, Option.some.injEq] at h
    subst h
    rw [List.getElem?_append_left (by show 0 * 4 + j < 4; omega)]
    simp
  · rw [List.getElem?_append_right (by show 4 ≤ (i + 1) * 4 + j; omega)]
    have e : (i + 1) * 4 + j - x.cells.length = i * 4 + j := by
     show (i + 1) * 4 + j - 4 = i * 4 + j
     omega
    rw [e]
    exact ih (by simpa using h)
/-- The letters lie there. -/
def LtrsAt (w : World) (L : Option Addr) (ls : List Ltr) : Prop := Reads w 4 L ls.length (ltrCells ls) ∧ ∀ l ∈ ls, Reads w 1 l.A l.m (l.bs.map .bool) ∧ l.text.length ≤ 9223372036854775807
theorem LtrsAt.bl {w w' : World} {L : Option Addr} {ls : List Ltr} (h : LtrsAt w L ls) (hb : Bl w w') : LtrsAt w' L ls := ⟨h.1.bl hb, fun l hl => ⟨(h.2 l hl).1.bl hb, (h.2 l hl).2⟩⟩
theorem LtrsAt.at_ {w : World} {L : Option Addr} {ls : List Ltr} {i : Nat} {l : Ltr} (h : LtrsAt w L ls) (hi : ls[i]? = some l) : ∃ ad, L = some ad ∧ w.cell? (ad.add (i * 4)) = some (.string ⟨l.text.toArray⟩) ∧ w.cell? ⟨(ad.add (i * 4)).block, (ad.add (i * 4)).off + 1, none⟩ = some (.int .i64 l.W) ∧
 w.cell? ⟨(ad.add (i * 4)).block, (ad.add (i * 4)).off + 2, none⟩ = some (.int .i64 l.H) ∧ w.cell? ⟨(ad.add (i * 4)).block, (ad.add (i * 4)).off + 3, none⟩ = some (.slice l.A l.m l.c) := by
 have hlt : i < ls.length := (List.getElem?_eq_some_iff.1 hi).1
 obtain ⟨ad, e, hc⟩ := h.1.2 (by omega)
 have key : ∀ j v, j < 4 → l.cells[j]? = some v → w.cell? ((ad.add (i * 4)).add j) = some v := fun j v hj hv => by
  rw [add_of_add]
  exact hc _ _ (by rw [ltrCells_at hi j hj]; exact hv)
 have k0 := key 0 _ (by omega) rfl
 have k1 := key 1 _ (by omega) rfl
 have k2 := key 2 _ (by omega) rfl
 have k3 := key 3 _ (by omega) rfl
 rw [Addr.add_zero'] at k0
 rw [Addr.add_succ'] at k1 k2 k3
 exact ⟨ad, e, k0, k1, k2, k3⟩
theorem LtrsAt.take {w : World} {L : Option Addr} {ls : List Ltr} (h : LtrsAt w L ls) (i : Nat) (hi : i ≤ ls.length) : LtrsAt w L (ls.take i) := by
 have hl : (ls.take i).length = i := by simp; omega
 refine ⟨⟨ltrCells_len _, fun hn => ?_⟩, fun l hm => h.2 l (List.mem_of_mem_take hm)⟩
 obtain ⟨ad, e, hc⟩ := h.1.2 (by omega)
 refine ⟨ad, e, fun j u hj => hc j u ?_⟩
 have e2 : ltrCells ls = ltrCells (ls.take i) ++ ltrCells (ls.drop i) := by rw [← ltrCells_append, List.take_append_drop]
 rw [e2, List.getElem?_append_left (List.getElem?_eq_some_iff.1 hj).1]
 exact hj

/-! ### what is wrong -/
def textB (l : List UInt8) : Bool := decide (∀ b ∈ l, 33 ≤ b.toNat ∧ b.toNat ≤ 126) && decide (1 ≤ l.length ∧ l.length ≤ 4)
/-- Does some column have no ink? -/
def bareB (bs : List Bool) (W H : Nat) : Bool := decide (∃ x, x < W ∧ colN bs W H x = 0)
def ltrErr (ht : Int) (prev : List (List UInt8)) (l : Ltr) : Int :=
 firstNZ [whenI (!textB l.text) 2, whenI (decide (l.text ∈ prev)) 6, pageErr l.W l.H l.m, whenI (l.H != ht) 11, whenI (decide (64 < l.W)) 4, whenI (bareB l.bs l.W.toNat l.H.toNat) 2]
def ltrsErr (ht : Int) : List (List UInt8) → List Ltr → Int
 | _, [] => 0
 | prev, l :: ls => if ltrErr ht prev l = 0 then ltrsErr ht (prev ++ [l.text]) ls else ltrErr ht prev l
def rangeB (ht gap sp : Int) : Bool := inB ht 1 64 && (inB gap 1 16 && inB sp 1 64)
def fontHead (nm : Bool) (ht gap sp : Int) (n : Nat) : Int := firstNZ [whenI (!nm) 5, whenI (!rangeB ht gap sp) 3, whenI (decide (sp ≤ gap)) 7, whenI (decide (n = 0)) 9, whenI (decide (200 < n)) 4]
def fontErr (nm : Bool) (ht gap sp : Int) (ls : List Ltr) : Int := if fontHead nm ht gap sp ls.length = 0 then ltrsErr ht [] ls else fontHead nm ht gap sp ls.length
/-- What is left of the letters, from the i-th on. -/
theorem ltrsErr_from {ht : Int} {ls : List Ltr} {i : Nat} {l : Ltr} (h : ls[i]? = some l) : ltrsErr ht ((ls.take i).map Ltr.text) (ls.drop i) = if ltrErr ht ((ls.take i).map Ltr.text) l = 0 then ltrsErr ht ((ls.take (i + 1)).map Ltr.text) (ls.drop (i + 1)) else ltrErr ht ((ls.take i).map Ltr.text) l := by
 have hlt : i < ls.length := (List.getElem?_eq_some_iff.1 h).1
 have e : ls.drop i = l :: ls.drop (i + 1) := by
  rw [List.drop_eq_getElem_cons hlt]
  congr 1
  exact (List.getElem?_eq_some_iff.1 h).2
 have e2 : ls.take (i + 1) = ls.take i ++ [l] := by rw [List.take_add_one, h]; rfl
 rw [e, e2, List.map_append]
 rfl

end Go.Proofs.YthobmednnocklaaGreatDoor


/-! slices.Equal of numbers; blank pages; 'pages'. -/
namespace Go.Proofs.YthobmednnocklaaGreatDoor
open Go.RowKit

/-! ### blank pages -/
set_option maxRecDepth 100000 in
set_option maxHeartbeats 400000 in
theorem blank_bad (W H : Int) (w : World) (hs : sizeErr W H ≠ 0) :
 Calls Tryz.prog 86 #[.int .i64 W, .int .i64 H] w fun e w' =>
  e = .returned (.tuple #[.agg #[.int .i64 0, .int .i64 0, .slice none 0 0], .int .i64 (sizeErr W H)]) ∧ Bl w w' := by
 have hq : (sizeErr W H != 0) = true := by simp [hs]
 clear hs
 go_enter Tryz.func86, Tryz.ntmps86
 go_wp2_with (go_at_call 117; refine (checkSize_any _ _ _).mono ?_; rintro e w1 ⟨rfl, rfl⟩)
 refine bodyPost_ret (v := .tuple #[.agg #[.int .i64 0, .int .i64 0, .slice none 0 0], .int .i64 (sizeErr W H)]) (by simp [results, Tryz.results86, go_sem]) rfl ⟨rfl, ?_⟩
 repeat' (first | exact Bl.refl _ | refine Bl.drew ?_ | refine Bl.setCell ?_ (by simp) _ | refine Bl.alloc ?_ _)

end Go.Proofs.YthobmednnocklaaGreatDoor


/-! page.counted, Rows, Columns, Histogram. -/
namespace Go.Proofs.YthobmednnocklaaGreatDoor
open Go.RowKit

/-- A table of numbers if the error is 0, nothing else. -/
def TabRes (w : World) (err : Int) (N : Nat) (f : Nat → Int) (P : Option Addr) (m : Nat) : Prop :=
 (err = 0 → m = N ∧ Reads w 1 P m ((tabL m f).map (.int .i64))) ∧ (err ≠ 0 → m = 0 ∧ P = none)
theorem TabRes.bl {w w' : World} {err : Int} {N : Nat} {f : Nat → Int} {P : Option Addr} {m : Nat} (h : TabRes w err N f P m) (hb : Bl w w') : TabRes w' err N f P m :=
 ⟨fun e => ⟨(h.1 e).1, (h.1 e).2.bl hb⟩, h.2⟩
def colI (bs : List Bool) (W H k : Nat) : Int := ((colN bs W H k : Nat) : Int)
set_option maxRecDepth 100000 in
set_option maxHeartbeats 2000000 in
theorem counted_any (W H : Nat) (A : Option Addr) (ac : Nat) (bs : List Bool) (many : Nat) (num : Nat → Nat) (kf : FuncId) (cap : Array Value) (w : World) (hA : Reads w 1 A (W * H) (bs.map .bool)) (hbd : W * H ≤ 1048576) (hmany : many ≤ 4000)
 (hent : ∀ args w, (callFunc kf args).run Tryz.prog w = .ok (.enter kf args) w)
 (hnum : ∀ wx (i : Nat), Bl w wx → i < W * H → Calls Tryz.prog kf (#[.int .i64 i] ++ cap) wx fun e w' => e = .returned (.int .i64 ((num i : Nat) : Int)) ∧ Bl wx w') (hlt : ∀ i, i < W * H → num i < many) :
 Calls Tryz.prog 241 #[.agg #[.int .i64 W, .int .i64 H, .slice A (W * H) ac], .int .i64 many, .func (.func kf) #[] cap] w fun e w' =>
  ∃ g, e = .returned (.slice (some ⟨g, 0, none⟩) many many) ∧ w.heap.size ≤ g ∧ Blk w' g 3 (tabI many fun k => ((cntBy bs num (W * H) k : Nat) : Int)) ∧ Bl w w' := by
 let w2 := (w).alloc (.cells #[.int .i64 W, .int .i64 H, .slice A (W * H) ac] 24)
 have w2b : Bl w w2 := (Bl.refl w).alloc _
 have w21 : Blk w2 (w.heap.size) 24 #[.int .i64 W, .int .i64 H, .slice A (W * H) ac] := by
  have h0 := Blk.new (w) 24 #[.int .i64 W, .int .i64 H, .slice A (W * H) ac]
  exact h0
 have k1 := w21.all3
 have lw2 : w2.heap.size = w.heap.size + 1 := by simp [w2]
 have hmk := run_make_row' (P := Tryz.prog) 57 3 (.int .i64 0) 8 Tryz.underlying57 info_int rfl .i64 .i64 many (by omega) (by omega)
 rw [tabI_made] at hmk
 have HA := Lib.hid hA; have Hnum := Lib.hid hnum; have Hlt := Lib.hid hlt
 have start : Blk (w2.alloc (.cells (tabI many fun _ => 0) 3)) (w.heap.size + 1) 3 (tabI many fun k => ((cntBy bs num 0 k : Nat) : Int)) := by
  have := Blk.new w2 3 (tabI many fun _ => 0)
  rw [lw2] at this
  exact this
 have Start := Lib.hid start
 clear hA hnum hlt start
 go_enter Tryz.func241, Tryz.ntmps241
 go_wp2_with fail
 go_loopw [15] (fun u wr => ∃ i : Nat, i ≤ W * H ∧ u = .int .i64 i ∧ Bl w2 wr ∧ Blk wr (w.heap.size + 1) 3 (tabI many fun k => ((cntBy bs num i k : Nat) : Int))) (fun u _ => W * H - (intOf u).toNat)
 case atStart => exact ⟨0, Nat.zero_le _, rfl, (Bl.refl _).alloc _, Start.out⟩
 case round =>
  clear k1
  obtain ⟨i, hi, rfl, hbr, hbo⟩ := hrel
  have k1 := (w21.bl hbr).all3
  by_cases hlt : i < W * H
  · have il : (i : Int) < (W : Int) * (H : Int) := by have := Int.natCast_mul W H; omega
    obtain ⟨ad, ua, eA, hu, hca⟩ := (HA.out.bl (w2b.trans hbr)).at_ hlt
    have hua : ua = .bool (bs.getD i false) := by
     simp only [List.getElem?_map, Option.map_eq_some_iff] at hu
     obtain ⟨b, hb1, hb2⟩ := hu
     rw [← hb2, List.getD, hb1]; rfl
    clear hu
    subst hua eA
    have hst := fun k => cntBy_succ bs num i k
    have hle := fun k => cntBy_le bs num i k
    have hn := Hlt.out i hlt
    have hcall := fun wx h => Hnum.out wx i (w2b.trans h) hlt
    obtain ⟨va, hva⟩ : ∃ v, v = bs.getD i false := ⟨_, rfl⟩
    obtain ⟨a, ha⟩ : ∃ a, a = num i := ⟨_, rfl⟩
    rw [← ha] at hn
    simp only [← ha] at hcall hst
    simp only [← hva] at hst hca
    have Hst := Lib.hid hst; have Hle := Lib.hid hle; have Hcall := Lib.hid hcall
    clear hst hle hcall hva ha
    cases va
    · have hsame : tabI many (fun k => ((cntBy bs num i k : Nat) : Int)) = tabI many (fun k => ((cntBy bs num (i + 1) k : Nat) : Int)) :=
       tabI_congr fun k _ => by rw [Hst.out k]; simp [b1]
      rw [hsame] at hbo
      clear hsame
      go_wp2_with fail
      exact ⟨⟨i + 1, hlt, by go_num, hbr, hbo⟩, by simp [intOf]; omega⟩
    · go_wp2_with fail
      refine (Hcall.out _ hbr).mono ?_
      rintro e w4 ⟨rfl, hb4⟩
      have hbr4 := hbr.trans hb4
      have hbo4 := hbo.bl hb4
      have kc := hbo4.tabAt hn
      have kf := hbo4.frozen a
      have hset := hbo4.tabSet (f' := fun k => ((cntBy bs num (i + 1) k : Nat) : Int)) a (((cntBy bs num i a : Nat) : Int) + 1) (fun k hk => by
       rw [Hst.out k]
       by_cases e : k = a
       · subst e; simp [b1]
       · have : ¬ (a = k) := fun h => e h.symm
         simp [e, this, b1])
      have hcb := Hle.out a
      obtain ⟨c, hc⟩ : ∃ c, c = cntBy bs num i a := ⟨_, rfl⟩
      rw [← hc] at kc hset hcb
      have Hset := Lib.hid hset
      clear hset hc k1
      go_wp2_with fail
      exact ⟨⟨i + 1, hlt, by go_num, hbr4.setCell (by simp; omega) _, Hset.out⟩, by simp [intOf]; omega⟩
  · obtain rfl : i = W * H := by omega
    go_wp2_with fail
    go_ret
    exact ⟨_, rfl, by omega, hbo, w2b.trans hbr⟩

set_option maxHeartbeats 400000 in
theorem columns1_any (p W : Nat) (H : Int) (v : Value) (i : Nat) (w : World) (hp : Blk w p 24 #[.int .i64 W, .int .i64 H, v]) (hW : 1 ≤ W ∧ W ≤ 4000) (hi : i ≤ 1048576) :
 Calls Tryz.prog 242 #[.int .i64 i, .pointer (some ⟨p, 0, none⟩)] w fun e w' => e = .returned (.int .i64 ((i % W : Nat) : Int)) ∧ Bl w w' := by
 have kp := hp.all3
 have hWp : ¬ (W = 0) := by omega
 obtain ⟨q, hq⟩ : ∃ q, q = i % W := ⟨_, rfl⟩
 have e1 : (i : Int) % (W : Int) = (q : Int) := by rw [hq]; simp
 have e2 := hq.symm
 have hqb : q ≤ i := by rw [hq]; first | exact Nat.div_le_self _ _ | exact Nat.mod_le _ _
 rw [← hq]
 clear hq
 go_enter Tryz.func242, Tryz.ntmps242
 go_wp2_with fail
 go_ret
 exact ⟨by first | rfl | exact ret_int e1, Bl.refl _⟩
set_option maxRecDepth 100000 in
set_option maxHeartbeats 1000000 in
theorem columns_any (W H : Int) (A : Option Addr) (an ac : Nat) (bs : List Bool) (w : World) (hA : Reads w 1 A an (bs.map .bool)) :
 Calls Tryz.prog 158 #[.agg #[.int .i64 W, .int .i64 H, .slice A an ac]] w fun e w' =>
  ∃ P m c, e = .returned (.tuple #[.slice P m c, .int .i64 (pageErr W H an)]) ∧ TabRes w' (pageErr W H an) W.toNat (colI bs W.toNat H.toNat) P m ∧ Bl w w' := by
 let w2 := (w).alloc (.cells #[.int .i64 W, .int .i64 H, .slice A an ac] 24)
 have w2b : Bl w w2 := (Bl.refl w).alloc _
 have w21 : Blk w2 (w.heap.size) 24 #[.int .i64 W, .int .i64 H, .slice A an ac] := by
  have h0 := Blk.new (w) 24 #[.int .i64 W, .int .i64 H, .slice A an ac]
  exact h0
 have k1 := w21.all3
 by_cases hp : pageErr W H an = 0
 · have hz := sizeErr_zero (pageErr_zero hp).1
   have Hp := Lib.hid hp
   obtain ⟨W, H, rfl, rfl, rfl, u1, u2, u3⟩ := page_nat hp
   have hW : 1 ≤ W ∧ W ≤ 4000 := by omega
   have HA := Lib.hid (hA.bl w2b)
   clear hz hA
   have ent := enters Tryz.func242 (by kernel_rfl) rfl
   go_enter Tryz.func158, Tryz.ntmps158
   go_wp2_with fail
   refine (checkBits_any _ _ _ _ _ _).mono ?_
   rintro e w3 ⟨rfl, hb3⟩
   have k3 := (w21.bl hb3).all3
   clear k1
   go_wp2_with fail
   refine (counted_any W H A ac bs W (fun i => i % W) 242 #[.pointer (some ⟨w.heap.size, 0, none⟩)] _ (HA.out.bl hb3) u3 (by omega) ent
    (fun wx i hb hi => columns1_any _ W H _ i wx ((w21.bl hb3).bl hb) hW (by omega)) (fun i hi => (place_parts hi).1)).mono ?_
   rintro e w4 ⟨g, rfl, hg, hbk, hb4⟩
   have e : tabI W (fun k => ((cntBy bs (fun i => i % W) (W * H) k : Nat) : Int)) = tabI W (colI bs W H) := tabI_congr fun k hk => by rw [cntBy_cols bs W H k hk]; rfl
   rw [e] at hbk
   have hp := Hp.out
   go_wp2_with fail
   refine bodyPost_ret (v := .tuple #[.slice (some ⟨g, 0, none⟩) W W, .int .i64 0]) (by simp [results, Tryz.results158, go_sem]) rfl ⟨_, _, _, by rw [hp], ⟨fun _ => ⟨by simp, ?_⟩, fun h => absurd hp h⟩, (w2b.trans hb3).trans hb4⟩
   simpa using hbk.tabReads
 · have hq : (pageErr W H an != 0) = true := by simp [hp]
   have Hp := Lib.hid hp
   clear hp
   go_enter Tryz.func158, Tryz.ntmps158
   go_wp2_with fail
   refine (checkBits_any _ _ _ _ _ _).mono ?_
   rintro e w3 ⟨rfl, hb3⟩
   go_wp2_with fail
   refine bodyPost_ret (v := .tuple #[.slice none 0 0, .int .i64 (pageErr W H an)]) (by simp [results, Tryz.results158, go_sem]) rfl ⟨_, _, _, rfl, ⟨fun h => absurd h Hp.out, fun _ => ⟨rfl, rfl⟩⟩, w2b.trans hb3⟩

/-! ### Histogram -/
end Go.Proofs.YthobmednnocklaaGreatDoor


/-! bedref2.InkOf, RowsOf, ColumnsOf, Ends, BoundsOf. -/
namespace Go.Proofs.YthobmednnocklaaGreatDoor
open Go.RowKit

set_option maxRecDepth 100000 in
set_option maxHeartbeats 4000000 in
theorem inkOf_any (W H X Y BW BH : Nat) (A : Option Addr) (ac : Nat) (bs : List Bool) (w : World) (hA : Reads w 1 A (W * H) (bs.map .bool)) (hW : W ≤ 4000) (hH : H ≤ 4000) (hX : X + BW ≤ W) (hY : Y + BH ≤ H) :
 Calls Tryz.prog 90 #[.agg #[.int .i64 W, .int .i64 H, .slice A (W * H) ac], .agg #[.int .i64 X, .int .i64 Y, .int .i64 BW, .int .i64 BH]] w fun e w' => e = .returned (.int .i64 (inkN bs W X Y BW BH)) ∧ Bl w w' := by
 let w2 := ((w).alloc (.cells #[.int .i64 W, .int .i64 H, .slice A (W * H) ac] 24)).alloc (.cells #[.int .i64 X, .int .i64 Y, .int .i64 BW, .int .i64 BH] 26)
 have w2b : Bl w w2 := ((Bl.refl w).alloc _).alloc _
 have w21 : Blk w2 (w.heap.size) 24 #[.int .i64 W, .int .i64 H, .slice A (W * H) ac] := by
  have h0 := Blk.new (w) 24 #[.int .i64 W, .int .i64 H, .slice A (W * H) ac]
  exact (h0.alloc _)
 have w22 : Blk w2 (w.heap.size + 1) 26 #[.int .i64 X, .int .i64 Y, .int .i64 BW, .int .i64 BH] := by
  have h0 := Blk.new ((w).alloc (.cells #[.int .i64 W, .int .i64 H, .slice A (W * H) ac] 24)) 26 #[.int .i64 X, .int .i64 Y, .int .i64 BW, .int .i64 BH]
  simp only [World.size_alloc] at h0
  exact h0
 have k2 := w22.all4
 have HA := Lib.hid (hA.bl w2b)
 clear hA
 go_enter Tryz.func90, Tryz.ntmps90
 go_wp2_with fail
 go_loopw [5, 6] (fun n u wr => ∃ j : Nat, j ≤ BH ∧ u = .int .i64 ((Y : Int) + j) ∧ n = .int .i64 (inkN bs W X Y BW j) ∧ Bl w2 wr) (fun _ u _ => Y + BH - (intOf u).toNat)
 case atStart => exact ⟨0, Nat.zero_le _, by simp, rfl, Bl.refl _⟩
 case round =>
  clear k2
  obtain ⟨j, hj, rfl, rfl, hbr⟩ := hrel
  have k2 := (w22.bl hbr).all4
  by_cases hlt : j < BH
  · have d1 : (Y : Int) + (j : Int) < (Y : Int) + (BH : Int) := by omega
    go_wp2_with fail
    go_loopw [5, 7] (fun n u wr => ∃ i : Nat, i ≤ BW ∧ u = .int .i64 ((X : Int) + i) ∧ n = .int .i64 (((inkN bs W X Y BW j + sumN (fun i => b1 (pix bs W (X + i) (Y + j))) i : Nat)) : Int) ∧ Bl w2 wr) (fun _ u _ => X + BW - (intOf u).toNat)
    case atStart => exact ⟨0, Nat.zero_le _, by simp, rfl, hbr⟩
    case round =>
     clear k2 hbr
     rename_i wo _ _ _
     obtain ⟨i, hi, rfl, rfl, hbr⟩ := hrel
     have k1 := (w21.bl hbr).all3
     have k2 := (w22.bl hbr).all4
     by_cases hlt2 : i < BW
     · have d2 : (X : Int) + (i : Int) < (X : Int) + (BW : Int) := by omega
       have hat := at_any W H A ac bs (((X + i : Nat)) : Int) (((Y + j : Nat)) : Int) wr (HA.out.bl hbr) hW hH
       rw [atI_in bs W H (X + i) (Y + j) (by omega) (by omega)] at hat
       have hst : sumN (fun i => b1 (pix bs W (X + i) (Y + j))) (i + 1) = sumN (fun i => b1 (pix bs W (X + i) (Y + j))) i + b1 (pix bs W (X + i) (Y + j)) := rfl
       have hle : sumN (fun i => b1 (pix bs W (X + i) (Y + j))) i ≤ i * 1 := sumN_le (fun _ => b1_le _) i
       have hle2 : inkN bs W X Y BW j ≤ j * BW := sumN_le (fun k => by have := sumN_le (f := fun i => b1 (pix bs W (X + i) (Y + k))) (c := 1) (fun _ => b1_le _) BW; simpa using this) j
       have hle3 := Nat.mul_le_mul (show j ≤ 4000 by omega) (show BW ≤ 4000 by omega)
       obtain ⟨n, hn⟩ : ∃ n, n = sumN (fun i => b1 (pix bs W (X + i) (Y + j))) i := ⟨_, rfl⟩
       obtain ⟨va, hva⟩ : ∃ v, v = pix bs W (X + i) (Y + j) := ⟨_, rfl⟩
       obtain ⟨q, hq⟩ : ∃ q, q = inkN bs W X Y BW j := ⟨_, rfl⟩
       rw [← hn, ← hva] at hst
       rw [← hn] at hle ⊢
       rw [← hva] at hat
       rw [← hq] at hle2 ⊢
       have ex : (((X + i : Nat)) : Int) = (X : Int) + (i : Int) := by simp
       have ey : (((Y + j : Nat)) : Int) = (Y : Int) + (j : Int) := by simp
       rw [ex, ey] at hat
       have Hat := Lib.hid hat; have Hst := Lib.hid hst; have Hq := Lib.hid hq
       clear hat hst hn hva ex ey hq
       cases va
       all_goals
        go_wp2_with fail
        refine Hat.out.mono ?_
        rintro e w1 ⟨rfl, hb1⟩
        go_wp2_with fail
        exact ⟨⟨i + 1, hlt2, by go_num, by rw [Hst.out]; first | (congr 1; done) | (congr 1; simp [b1]; done) | (congr 1; simp [b1]; omega), hbr.trans hb1⟩, by simp [intOf]; omega⟩
     · obtain rfl : i = BW := by omega
       go_wp2_with fail
       exact ⟨⟨j + 1, hlt, by go_num, rfl, hbr⟩, by simp [intOf]; omega⟩
  · obtain rfl : j = BH := by omega
    go_wp2_with fail
    go_ret
    exact ⟨rfl, w2b.trans hbr⟩

set_option maxRecDepth 100000 in
set_option maxHeartbeats 2000000 in
theorem columnsOf_any (W H : Nat) (A : Option Addr) (ac : Nat) (bs : List Bool) (w : World) (hA : Reads w 1 A (W * H) (bs.map .bool)) (hW : W ≤ 4000) (hH : H ≤ 4000) :
 Calls Tryz.prog 41 #[.agg #[.int .i64 W, .int .i64 H, .slice A (W * H) ac]] w fun e w' => ∃ P c, e = .returned (.slice P W c) ∧ Reads w' 1 P W ((tabL W (colI bs W H)).map (.int .i64)) ∧ Bl w w' := by
 let w2 := (w).alloc (.cells #[.int .i64 W, .int .i64 H, .slice A (W * H) ac] 24)
 have w2b : Bl w w2 := (Bl.refl w).alloc _
 have w21 : Blk w2 (w.heap.size) 24 #[.int .i64 W, .int .i64 H, .slice A (W * H) ac] := by
  have h0 := Blk.new (w) 24 #[.int .i64 W, .int .i64 H, .slice A (W * H) ac]
  exact h0
 have k1 := w21.all3
 have lw2 : w2.heap.size = w.heap.size + 1 := by simp [w2]
 have HA := Lib.hid (hA.bl w2b)
 have ho0 : w2.ownsRow (w.heap.size + 1) 3 1 (.slice none 0 0) 0 ((tabL 0 (colI bs W H)).map (.int .i64)) := World.ownsRow_nil _ _ _ _
 have Ho0 := Lib.hid ho0
 clear hA ho0
 go_enter Tryz.func41, Tryz.ntmps41
 go_wp2_with fail
 go_loopw [3, 7] (fun v u wr => ∃ k : Nat, k ≤ W ∧ u = .int .i64 k ∧ Bl w2 wr ∧ wr.ownsRow (w.heap.size + 1) 3 1 v k ((tabL k (colI bs W H)).map (.int .i64))) (fun _ u _ => W - (intOf u).toNat)
 case atStart => exact ⟨0, Nat.zero_le _, rfl, Bl.refl _, Ho0.out⟩
 case round =>
  clear k1
  obtain ⟨k, hk, rfl, hbr, hown⟩ := hrel
  have k1 := (w21.bl hbr).all3
  by_cases hlt : k < W
  · have hcall := inkOf_any W H k 0 1 H A ac bs wr (HA.out.bl hbr) hW hH (by omega) (by omega)
    rw [ink_col] at hcall
    have htl : (tabL (k + 1) (colI bs W H)).map (Value.int .i64) = (tabL k (colI bs W H)).map (Value.int .i64) ++ [Value.int .i64 ((colI bs W H) k)] := by simp [tabL, List.range_succ]
    have Hcall := Lib.hid hcall; have Htl := Lib.hid htl
    clear hcall htl
    go_wp2_with fail
    refine Hcall.out.mono ?_
    rintro e w1 ⟨rfl, hb1⟩
    have hown1 := own_bl hown hb1
    have hbr1 := hbr.trans hb1
    clear hown
    go_wp2_with (at_builtin; refine wpList_append_one rfl (.tmp 10) (.tmp 17) 57 rfl 3 (.int .i64 0) 8 Tryz.underlying57 info_int rfl (w.heap.size + 1) _ _ _ rfl _ rfl rfl hbr1 (by omega) (by have := hbr1.le; omega) hown1 (by omega) (by unfold maxLen; omega) ?_; intro v' w' hown' hb' _)
    exact ⟨⟨k + 1, hlt, by go_num, hb', by rw [Htl.out]; exact hown'⟩, by simp [intOf]; omega⟩
  · obtain rfl : k = W := by omega
    obtain ⟨P, c, rfl, hp⟩ := own_reads hown
    go_wp2_with fail
    go_ret
    exact ⟨_, _, rfl, hp, w2b.trans hbr⟩

/-! ### Ends -/
end Go.Proofs.YthobmednnocklaaGreatDoor


/-! What holds of a font whose error is 0. -/
namespace Go.Proofs.YthobmednnocklaaGreatDoor
open Go.RowKit

theorem firstNZ_zero {es : List Int} (h : firstNZ es = 0) : ∀ e ∈ es, e = 0 := by
 induction es with
 | nil => intro e he; cases he
 | cons x es ih =>
  have h' : (if x = 0 then firstNZ es else x) = 0 := h
  by_cases h0 : x = 0
  · rw [if_pos h0] at h'
    intro e he
    rcases List.mem_cons.1 he with rfl | he
    · exact h0
    · exact ih h' e he
  · rw [if_neg h0] at h'
    exact absurd h' h0
theorem whenI_zero {b : Bool} {n : Int} (h : whenI b n = 0) (hn : n ≠ 0) : b = false := by
 cases b
 · rfl
 · exact absurd h hn
theorem ltrsErr_zero {ht : Int} {ls : List Ltr} : ∀ {prev : List (List UInt8)}, ltrsErr ht prev ls = 0 → ∀ l ∈ ls, textB l.text = true ∧ pageErr l.W l.H l.m = 0 ∧ l.H = ht ∧ l.W ≤ 64 := by
 induction ls with
 | nil => intro prev _ l hl; cases hl
 | cons x ls ih =>
  intro prev h l hl
  have h' : (if ltrErr ht prev x = 0 then ltrsErr ht (prev ++ [x.text]) ls else ltrErr ht prev x) = 0 := h
  by_cases h0 : ltrErr ht prev x = 0
  · rw [if_pos h0] at h'
    rcases List.mem_cons.1 hl with rfl | hl
    · have hz := firstNZ_zero h0
      have k1 := whenI_zero (hz _ (by simp : whenI (!textB l.text) 2 ∈ _)) (by decide)
      have k2 := hz (pageErr l.W l.H l.m) (by simp)
      have k3 := whenI_zero (hz (whenI (l.H != ht) 11) (by simp)) (by decide)
      have k4 := whenI_zero (hz (whenI (decide (64 < l.W)) 4) (by simp)) (by decide)
      refine ⟨by simpa using k1, k2, by simpa using k3, ?_⟩
      have := of_decide_eq_false k4
      omega
    · exact ih h' l hl
  · rw [if_neg h0] at h'
    exact absurd h' h0
theorem fontErr_zero {nm : Bool} {ht gap sp : Int} {ls : List Ltr} (h : fontErr nm ht gap sp ls = 0) : (nm = true ∧ rangeB ht gap sp = true ∧ gap < sp ∧ ls.length ≠ 0 ∧ ls.length ≤ 200 ∧ 1 ≤ ht ∧ ht ≤ 64) ∧ ∀ l ∈ ls, textB l.text = true ∧ pageErr l.W l.H l.m = 0 ∧ l.H = ht ∧ l.W ≤ 64 := by
 have h' : (if fontHead nm ht gap sp ls.length = 0 then ltrsErr ht [] ls else fontHead nm ht gap sp ls.length) = 0 := h
 by_cases h0 : fontHead nm ht gap sp ls.length = 0
 · rw [if_pos h0] at h'
   refine ⟨?_, ltrsErr_zero h'⟩
   have hz := firstNZ_zero h0
   have k1 := whenI_zero (hz (whenI (!nm) 5) (by simp)) (by decide)
   have k2 := whenI_zero (hz (whenI (!rangeB ht gap sp) 3) (by simp)) (by decide)
   have k3 := of_decide_eq_false (whenI_zero (hz (whenI (decide (sp ≤ gap)) 7) (by simp)) (by decide))
   have k4 := of_decide_eq_false (whenI_zero (hz (whenI (decide (ls.length = 0)) 9) (by simp)) (by decide))
   have k5 := of_decide_eq_false (whenI_zero (hz (whenI (decide (200 < ls.length)) 4) (by simp)) (by decide))
   have k2' : rangeB ht gap sp = true := by simpa using k2
   have k6 : inB ht 1 64 = true := by
    unfold rangeB at k2'
    simp only [Bool.and_eq_true] at k2'
    exact k2'.1
   have k7 := inB_true.1 k6
   exact ⟨by simpa using k1, k2', by omega, k4, by omega, k7.1, k7.2⟩
 · rw [if_neg h0] at h'
   exact absurd h' h0

end Go.Proofs.YthobmednnocklaaGreatDoor


/-! boxes in pages, Cut and Ink. -/
namespace Go.Proofs.YthobmednnocklaaGreatDoor
open Go.RowKit

/-! ### boxes -/
def inPageB (X Y BW BH W H : Int) : Bool := decide (0 ≤ X ∧ X < W ∧ 0 ≤ Y ∧ Y < H ∧ 1 ≤ BW ∧ BW ≤ W - X ∧ 1 ≤ BH ∧ BH ≤ H - Y)
def inPageW (X Y BW BH W H : Int) : Bool := inB X 0 (wrap64 (W - 1)) && (inB Y 0 (wrap64 (H - 1)) && (inB BW 1 (wrap64 (W - X)) && inB BH 1 (wrap64 (H - Y))))
theorem inPageW_eq {X Y BW BH W H : Int} (hW : 1 ≤ W ∧ W ≤ 4000) (hH : 1 ≤ H ∧ H ≤ 4000) : inPageW X Y BW BH W H = inPageB X Y BW BH W H := by
 have e1 : wrap64 (W - 1) = W - 1 := by unfold wrap64; omega
 have e2 : wrap64 (H - 1) = H - 1 := by unfold wrap64; omega
 rw [Bool.eq_iff_iff]
 unfold inPageW inPageB
 simp only [e1, e2, Bool.and_eq_true, inB_true, decide_eq_true_eq]
 constructor
 · rintro ⟨h1, h2, h3, h4⟩
   have e3 : wrap64 (W - X) = W - X := by unfold wrap64; omega
   have e4 : wrap64 (H - Y) = H - Y := by unfold wrap64; omega
   rw [e3] at h3
   rw [e4] at h4
   omega
 · rintro ⟨h1, h2, h3, h4, h5⟩
   have e3 : wrap64 (W - X) = W - X := by unfold wrap64; omega
   have e4 : wrap64 (H - Y) = H - Y := by unfold wrap64; omega
   rw [e3, e4]
   omega

set_option maxHeartbeats 1000000 in
theorem inPageOf_any (X Y BW BH W H : Int) (w : World) :
 Calls Tryz.prog 11 #[.agg #[.int .i64 X, .int .i64 Y, .int .i64 BW, .int .i64 BH], .int .i64 W, .int .i64 H] w fun e w' => e = .returned (.bool (inPageW X Y BW BH W H)) ∧ Bl w w' := by
 unfold inPageW
 cases h1 : inB X 0 (wrap64 (W - 1))
 case false =>
  go_enter Tryz.func11, Tryz.ntmps11
  go_wp2_with (go_at_call 12; refine (in_any _ _ _ _).mono ?_; rintro e w' ⟨rfl, rfl⟩)
  go_ret
  exact ⟨rfl, (Bl.refl _).alloc _⟩
 case true =>
  cases h2 : inB Y 0 (wrap64 (H - 1))
  case false =>
   go_enter Tryz.func11, Tryz.ntmps11
   go_wp2_with (go_at_call 12; refine (in_any _ _ _ _).mono ?_; rintro e w' ⟨rfl, rfl⟩)
   go_ret
   exact ⟨rfl, (Bl.refl _).alloc _⟩
  case true =>
   cases h3 : inB BW 1 (wrap64 (W - X))
   case false =>
    go_enter Tryz.func11, Tryz.ntmps11
    go_wp2_with (go_at_call 12; refine (in_any _ _ _ _).mono ?_; rintro e w' ⟨rfl, rfl⟩)
    go_ret
    exact ⟨rfl, (Bl.refl _).alloc _⟩
   case true =>
    go_enter Tryz.func11, Tryz.ntmps11
    go_wp2_with (go_at_call 12; refine (in_any _ _ _ _).mono ?_; rintro e w' ⟨rfl, rfl⟩)
    go_ret
    exact ⟨by simp, (Bl.refl _).alloc _⟩

set_option maxRecDepth 100000 in
set_option maxHeartbeats 2000000 in
theorem inPage_any (X Y BW BH : Int) (W H : Nat) (w : World) (hW : 1 ≤ W ∧ W ≤ 4000) (hH : 1 ≤ H ∧ H ≤ 4000) :
 Calls Tryz.prog 85 #[.agg #[.int .i64 X, .int .i64 Y, .int .i64 BW, .int .i64 BH], .int .i64 W, .int .i64 H] w fun e w' => e = .returned (.int .i64 (whenI (!inPageB X Y BW BH W H) 13)) ∧ Bl w w' := by
 by_cases hall : 0 ≤ X ∧ X < W ∧ 0 ≤ Y ∧ Y < H ∧ 1 ≤ BW ∧ BW ≤ W - X ∧ 1 ≤ BH ∧ BH ≤ H - Y
 · have e : inPageB X Y BW BH W H = true := by unfold inPageB; exact decide_eq_true hall
   rw [e]
   clear e
   obtain ⟨c1, c2, c3, c4, c5, c6, c7, c8⟩ := hall
   go_enter Tryz.func85, Tryz.ntmps85
   go_wp2_with fail
   go_ret
   exact ⟨rfl, (Bl.refl _).alloc _⟩
 · have e : inPageB X Y BW BH W H = false := by unfold inPageB; exact decide_eq_false hall
   rw [e]
   clear e
   rcases (show BW < 1 ∨ (¬ BW < 1 ∧ BH < 1) ∨ (¬ BW < 1 ∧ ¬ BH < 1 ∧ X < 0) ∨ (¬ BW < 1 ∧ ¬ BH < 1 ∧ ¬ X < 0 ∧ Y < 0) ∨ (¬ BW < 1 ∧ ¬ BH < 1 ∧ ¬ X < 0 ∧ ¬ Y < 0 ∧ (W : Int) ≤ X) ∨ (¬ BW < 1 ∧ ¬ BH < 1 ∧ ¬ X < 0 ∧ ¬ Y < 0 ∧ ¬ (W : Int) ≤ X ∧ (H : Int) ≤ Y) ∨
    (¬ BW < 1 ∧ ¬ BH < 1 ∧ ¬ X < 0 ∧ ¬ Y < 0 ∧ ¬ (W : Int) ≤ X ∧ ¬ (H : Int) ≤ Y ∧ (W : Int) - X < BW) ∨ (¬ BW < 1 ∧ ¬ BH < 1 ∧ ¬ X < 0 ∧ ¬ Y < 0 ∧ ¬ (W : Int) ≤ X ∧ ¬ (H : Int) ≤ Y ∧ ¬ (W : Int) - X < BW ∧ (H : Int) - Y < BH) by omega) with
    c1 | ⟨c1, c2⟩ | ⟨c1, c2, c3⟩ | ⟨c1, c2, c3, c4⟩ | ⟨c1, c2, c3, c4, c5⟩ | ⟨c1, c2, c3, c4, c5, c6⟩ | ⟨c1, c2, c3, c4, c5, c6, c7⟩ | ⟨c1, c2, c3, c4, c5, c6, c7, c8⟩
   all_goals
    clear hall
    go_enter Tryz.func85, Tryz.ntmps85
    go_wp2_with fail
    go_ret
    exact ⟨rfl, (Bl.refl _).alloc _⟩

/-! ### Cut -/
/-! ### Ink -/
end Go.Proofs.YthobmednnocklaaGreatDoor
