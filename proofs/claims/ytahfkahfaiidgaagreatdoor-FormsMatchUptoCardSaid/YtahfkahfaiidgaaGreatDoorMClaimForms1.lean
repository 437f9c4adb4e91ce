/- Ints in order. -/
import Derived.Test.YtahfkahfaiidgaaGreatDoorMClaimForms0

namespace Go.Proofs.YtahfkahfaiidgaaGreatDoor
open Go.RowKit

theorem eq_of_cells {α : Type} (xs ys : List α) (hl : xs.length = ys.length) (h : ∀ j, j < xs.length → xs[j]? = ys[j]?) : xs = ys := by
  apply List.ext_getElem?
  intro i
  rcases Nat.lt_or_ge i xs.length with hi | hi
  · exact h i hi
  · rw [List.getElem?_eq_none hi, List.getElem?_eq_none (by omega)]

/-! ### slices.Equal at bool -/
set_option maxRecDepth 100000 in
set_option maxHeartbeats 400000 in
theorem equalBits_any (A B : Option Addr) (c d : Nat) (xs ys : List Bool) (w : World) (hx : Reads w 1 A xs.length (xs.map Value.bool)) (hy : Reads w 1 B ys.length (ys.map Value.bool)) (hl : xs.length ≤ 1099511627776) :
    Calls Tryz.prog 74 #[.slice A xs.length c, .slice B ys.length d] w fun e w' => e = .returned (.bool (decide (xs = ys))) ∧ Bl w w' := by
  by_cases hlen : xs.length = ys.length
  · have hne : ((xs.length : Int) != (ys.length : Int)) = false := by simp [hlen]
    have hne2 : (xs.length != ys.length) = false := by simp [hlen]
    have Hlen := Lib.hid hlen; clear hlen
    go_enter Tryz.func74, Tryz.ntmps74
    go_wp2
    go_loopw [13] (fun v wr => ∃ k : Nat, k ≤ xs.length ∧ v = .int .i64 k ∧ Hid (∀ j, j < k → xs[j]? = ys[j]?) ∧ Bl w wr) (fun v _ => xs.length - (intOf v).toNat)
    case atStart => exact ⟨0, Nat.zero_le _, rfl, fun j hj => absurd hj (by omega), Bl.refl _⟩
    case round =>
      obtain ⟨k, hk, rfl, hz, hbr⟩ := hrel
      by_cases hlt : k < xs.length
      · have hlt' : k < ys.length := by have := Hlen.out; omega
        obtain ⟨ad, u, rfl, hu, hc⟩ := (hx.bl hbr).at_ hlt
        obtain ⟨bd, t, rfl, ht, hd⟩ := (hy.bl hbr).at_ hlt'
        have hu' : u = Value.bool xs[k] := by simpa [hlt] using hu.symm
        have ht' : t = Value.bool ys[k] := by simpa [hlt'] using ht.symm
        subst hu' ht'
        have Hx := Lib.hid hx; have Hy := Lib.hid hy
        clear hx hy hu ht
        have i1 : (k : Int) < (xs.length : Int) := by omega
        have i2 : (k : Int) < (ys.length : Int) := by omega
        by_cases h0 : xs[k] = ys[k]
        · have hb : (xs[k] != ys[k]) = false := by simp [h0]
          have hzz : Hid (∀ j, j < k + 1 → xs[j]? = ys[j]?) := fun j hj => by
            rcases Nat.lt_or_ge j k with h | h
            · exact hz.out j h
            · obtain rfl : j = k := by omega
              simp [hlt, hlt', h0]
          generalize xs[k] = xk at *
          generalize ys[k] = yk at *
          subst h0
          clear hb
          cases xk
          all_goals
            go_wp2
            refine wp_region_flow [(true, 0), (true, 1), (true, 2), (true, 3), (true, 4), (true, 5), (true, 6), (true, 7), (true, 8)] (fun _ => false) (by kernel_rfl) (by kernel_rfl) (by kernel_rfl) (by kernel_rfl) ?_
            iterate 2
              apply Flow.mv _ rfl
              · intro K' hK'
                simp only [Act.put, Act.eval, List.setIfInBounds_toArray, List.set_cons_zero, List.set_cons_succ, arr_getD, List.getD_cons_zero, List.getD_cons_succ]
                exact hK'
            iterate 1
              apply Flow.calm2 _ _ rfl rfl
              · intro w' hb' K' hK'
                obtain ⟨hc', hf'⟩ := hb'.rule
                go_simp
                try go_ints
                exact hK'
              · intro K' hK'
                simp only [Act.put, List.setIfInBounds_toArray, List.set_cons_zero, List.set_cons_succ]
                exact hK'
            iterate 1
              apply Flow.calm2 _ _ rfl rfl
              · intro w' hb' K' hK'
                obtain ⟨hc', hf'⟩ := hb'.rule
                go_simp
                try go_ints
                exact hK'
              · intro K' hK'
                simp only [Act.put, List.setIfInBounds_toArray, List.set_cons_zero, List.set_cons_succ]
                exact hK'
            iterate 2
              apply Flow.mv _ rfl
              · intro K' hK'
                simp only [Act.put, Act.eval, List.setIfInBounds_toArray, List.set_cons_zero, List.set_cons_succ, arr_getD, List.getD_cons_zero, List.getD_cons_succ]
                exact hK'
            iterate 1
              apply Flow.calm2 _ _ rfl rfl
              · intro w' hb' K' hK'
                obtain ⟨hc', hf'⟩ := hb'.rule
                go_simp
                try go_ints
                exact hK'
              · intro K' hK'
                simp only [Act.put, List.setIfInBounds_toArray, List.set_cons_zero, List.set_cons_succ]
                exact hK'
            iterate 1
              apply Flow.calm2 _ _ rfl rfl
              · intro w' hb' K' hK'
                obtain ⟨hc', hf'⟩ := hb'.rule
                go_simp
                try go_ints
                exact hK'
              · intro K' hK'
                simp only [Act.put, List.setIfInBounds_toArray, List.set_cons_zero, List.set_cons_succ]
                exact hK'
            iterate 1
              apply Flow.calm2 _ _ rfl rfl
              · intro w' hb' K' hK'
                obtain ⟨hc', hf'⟩ := hb'.rule
                go_simp
                try go_ints
                exact hK'
              · intro K' hK'
                simp only [Act.put, List.setIfInBounds_toArray, List.set_cons_zero, List.set_cons_succ]
                exact hK'
            refine Flow.done ?_
            go_wp2
            exact ⟨⟨k + 1, hlt, by go_num, hzz, hbr.drew⟩, by simp [intOf]; omega⟩
        · have hb : (xs[k] != ys[k]) = true := by simp [h0]
          have hf : ¬ xs = ys := fun e => h0 (by subst e; rfl)
          have H0 := Lib.hid hf; clear hf
          generalize xs[k] = xk at *
          generalize ys[k] = yk at *
          clear hb
          cases xk <;> cases yk <;> first | (exact absurd rfl h0) | clear h0
          all_goals
            go_wp2
            refine wp_region_flow [(true, 0), (true, 1), (true, 2), (true, 3), (true, 4), (true, 5), (true, 6), (true, 7), (true, 8)] (fun _ => false) (by kernel_rfl) (by kernel_rfl) (by kernel_rfl) (by kernel_rfl) ?_
            iterate 2
              apply Flow.mv _ rfl
              · intro K' hK'
                simp only [Act.put, Act.eval, List.setIfInBounds_toArray, List.set_cons_zero, List.set_cons_succ, arr_getD, List.getD_cons_zero, List.getD_cons_succ]
                exact hK'
            iterate 1
              apply Flow.calm2 _ _ rfl rfl
              · intro w' hb' K' hK'
                obtain ⟨hc', hf'⟩ := hb'.rule
                go_simp
                try go_ints
                exact hK'
              · intro K' hK'
                simp only [Act.put, List.setIfInBounds_toArray, List.set_cons_zero, List.set_cons_succ]
                exact hK'
            iterate 1
              apply Flow.calm2 _ _ rfl rfl
              · intro w' hb' K' hK'
                obtain ⟨hc', hf'⟩ := hb'.rule
                go_simp
                try go_ints
                exact hK'
              · intro K' hK'
                simp only [Act.put, List.setIfInBounds_toArray, List.set_cons_zero, List.set_cons_succ]
                exact hK'
            iterate 2
              apply Flow.mv _ rfl
              · intro K' hK'
                simp only [Act.put, Act.eval, List.setIfInBounds_toArray, List.set_cons_zero, List.set_cons_succ, arr_getD, List.getD_cons_zero, List.getD_cons_succ]
                exact hK'
            iterate 1
              apply Flow.calm2 _ _ rfl rfl
              · intro w' hb' K' hK'
                obtain ⟨hc', hf'⟩ := hb'.rule
                go_simp
                try go_ints
                exact hK'
              · intro K' hK'
                simp only [Act.put, List.setIfInBounds_toArray, List.set_cons_zero, List.set_cons_succ]
                exact hK'
            iterate 1
              apply Flow.calm2 _ _ rfl rfl
              · intro w' hb' K' hK'
                obtain ⟨hc', hf'⟩ := hb'.rule
                go_simp
                try go_ints
                exact hK'
              · intro K' hK'
                simp only [Act.put, List.setIfInBounds_toArray, List.set_cons_zero, List.set_cons_succ]
                exact hK'
            iterate 1
              apply Flow.calm2 _ _ rfl rfl
              · intro w' hb' K' hK'
                obtain ⟨hc', hf'⟩ := hb'.rule
                go_simp
                try go_ints
                exact hK'
              · intro K' hK'
                simp only [Act.put, List.setIfInBounds_toArray, List.set_cons_zero, List.set_cons_succ]
                exact hK'
            refine Flow.done ?_
            go_wp2
            go_ret
            exact ⟨ret_bool (by simp [H0.out]), hbr.drew⟩
      · have hf : xs = ys := eq_of_cells xs ys Hlen.out (fun j hj => hz.out j (by omega))
        have Hf := Lib.hid hf; clear hf
        have Hx := Lib.hid hx; have Hy := Lib.hid hy
        clear hx hy
        go_wp2
        go_ret
        exact ⟨ret_bool (by simp [Hf.out]), hbr⟩
  · have hne : ((xs.length : Int) != (ys.length : Int)) = true := by simp; omega
    have hne2 : (xs.length != ys.length) = true := by simp; omega
    have hf : ¬ xs = ys := fun e => hlen (by subst e; rfl)
    have Hf := Lib.hid hf
    clear hlen hx hy hf
    go_enter Tryz.func74, Tryz.ntmps74
    go_wp2
    go_ret
    exact ⟨ret_bool (by simp [Hf.out]), Bl.refl _⟩

/-! The same page. -/
set_option maxRecDepth 100000 in
set_option maxHeartbeats 400000 in
theorem sameBits_any (W H : Nat) (v u : Value) (xs : List Bool) (w : World) (hv : IsPage w v W H (xs.map Value.bool)) (hu : IsPage w u W H (xs.map Value.bool)) (hl : W * H ≤ 1099511627776) :
    Calls Tryz.prog 25 #[v, u] w fun e w' => e = .returned (.bool true) ∧ Bl w w' := by
  obtain ⟨A, c, rfl, hA⟩ := hv
  obtain ⟨B, d, rfl, hB⟩ := hu
  have hn : xs.length = W * H := by have := hA.1; simpa using this
  have heq := fun (w1 : World) (hb : Bl w w1) => equalBits_any A B c d xs xs w1 (by rw [hn]; exact hA.bl hb) (by rw [hn]; exact hB.bl hb) (by omega)
  rw [hn] at heq
  have Heq := Lib.hid heq; clear heq
  have Hn := Lib.hid hn
  clear hA hB hn
  go_enter Tryz.func25, Tryz.ntmps25
  go_wp2_with fail
  refine (Heq.out _ (((Bl.refl _).alloc _).alloc _)).mono ?_
  rintro e w1 ⟨rfl, hb1⟩
  go_wp2_with fail
  go_ret
  exact ⟨ret_bool (by simp), (((Bl.refl _).alloc _).alloc _).trans hb1⟩

/-! Nothing at all. -/
set_option maxRecDepth 100000 in
set_option maxHeartbeats 400000 in
theorem noBits_zero (w : World) : Calls Tryz.prog 21 #[.agg #[.int .i64 0, .int .i64 0, .slice none 0 0]] w fun e w' => e = .returned (.bool true) ∧ Bl w w' := by
  go_enter Tryz.func21, Tryz.ntmps21
  go_wp2
  go_ret
  exact ⟨rfl, (Bl.refl _).alloc _⟩

/-! ### slices.Equal at byte -/
/-! The same page. -/
/-! Nothing at all. -/
/-! ### bitsIs -/
/-- A function value that makes a page. -/
def MakesPage (P : Program) (k : FuncId) (cap : Array Value) (w : World) (W H : Nat) (cells : List Value) : Prop :=
  (∀ args w, (callFunc k args).run P w = .ok (.enter k args) w) ∧ ∀ wx, Bl w wx → Calls P k cap wx fun e w' => ∃ v, e = .returned v ∧ IsPage w' v W H cells ∧ Bl wx w'

set_option maxRecDepth 100000 in
set_option maxHeartbeats 400000 in
theorem bitsIs_bad (want : Int) (f : Value) (w : World) (hw : want ≠ 0) :
    Calls Tryz.prog 17 #[.agg #[.int .i64 0, .int .i64 0, .slice none 0 0], .int .i64 want, .int .i64 want, f] w fun e w' => e = .returned (.bool true) ∧ Bl w w' := by
  have hq : (want != 0) = true := by simp [hw]
  clear hw
  go_enter Tryz.func17, Tryz.ntmps17
  go_wp2_with (go_at_call 21; refine (noBits_zero _).mono ?_; rintro e w1 ⟨rfl, hb1⟩)
  go_ret
  exact ⟨rfl, ((Bl.refl _).alloc _).trans hb1⟩

set_option maxRecDepth 100000 in
set_option maxHeartbeats 400000 in
theorem bitsIs_ok (W H : Nat) (v : Value) (xs : List Bool) (k : FuncId) (cap : Array Value) (w : World) (hv : IsPage w v W H (xs.map .bool)) (hk : MakesPage Tryz.prog k cap w W H (xs.map .bool)) (hl : W * H ≤ 1099511627776) :
    Calls Tryz.prog 17 #[v, .int .i64 0, .int .i64 0, .func (.func k) #[] cap] w fun e w' => e = .returned (.bool true) ∧ Bl w w' := by
  have hent := hk.1
  obtain ⟨A, c, rfl, hA⟩ := id hv
  have Hv := Lib.hid hv
  clear hv hA
  go_enter Tryz.func17, Tryz.ntmps17
  go_wp2_with fail
  refine wp_region_flow [(true, 0), (true, 1), (true, 2), (true, 3), (true, 4), (false, 5), (false, 6), (true, 7), (true, 8)] (fun _ => false) (by kernel_rfl) (by kernel_rfl) (by kernel_rfl) (by kernel_rfl) ?_
  iterate 1
    apply Flow.mv _ rfl
    · intro K' hK'
      simp only [Act.put, Act.eval, List.setIfInBounds_toArray, List.set_cons_zero, List.set_cons_succ, arr_getD, List.getD_cons_zero, List.getD_cons_succ]
      exact hK'
  iterate 1
    apply Flow.calm2 _ _ rfl rfl
    · intro w' hb' K' hK'
      obtain ⟨hc', hf'⟩ := hb'.rule
      go_simp
      try go_ints
      exact hK'
    · intro K' hK'
      simp only [Act.put, List.setIfInBounds_toArray, List.set_cons_zero, List.set_cons_succ]
      exact hK'
  iterate 1
    apply Flow.mv _ rfl
    · intro K' hK'
      simp only [Act.put, Act.eval, List.setIfInBounds_toArray, List.set_cons_zero, List.set_cons_succ, arr_getD, List.getD_cons_zero, List.getD_cons_succ]
      exact hK'
  first
    | (apply Flow.pass rfl (by rfl))
    | (apply Flow.calmG _ rfl (by rfl)
       · intro w' hb'
         obtain ⟨hc', hf'⟩ := hb'.rule
         go_simp
         all_goals (try rfl))
  simp only [Act.put, List.setIfInBounds_toArray, List.set_cons_zero, List.set_cons_succ]
  try go_ints
  first
    | (apply Flow.pass rfl (by rfl))
    | (apply Flow.calmG _ rfl (by rfl)
       · intro w' hb'
         obtain ⟨hc', hf'⟩ := hb'.rule
         go_simp
         all_goals (try rfl))
  simp only [Act.put, List.setIfInBounds_toArray, List.set_cons_zero, List.set_cons_succ]
  try go_ints
  -- a guarded mover
  apply Flow.move rfl
  go_wp2_with fail
  have hk1 := hk.2 _ (((Bl.refl w).alloc (.cells #[.int .i64 W, .int .i64 H, .slice A (W * H) c] 42)).drew)
  refine hk1.mono ?_
  rintro e w1 ⟨u, rfl, hu, HB1⟩
  go_wp2_with fail
  refine ⟨fun _ => (by first | exact HB1 | exact Bl.refl _), ?_⟩
  -- a guarded mover
  apply Flow.move rfl
  go_wp2_with fail
  have hb2 : Bl w w1 := (((Bl.refl w).alloc _).drew).trans HB1
  refine (sameBits_any W H _ u xs w1 (Hv.out.bl hb2) hu hl).mono ?_
  rintro e w2 ⟨rfl, HB2⟩
  go_wp2_with fail
  refine ⟨fun _ => (by first | exact HB2 | exact Bl.refl _), ?_⟩
  iterate 1
    apply Flow.calm2 _ _ rfl rfl
    · intro w' hb' K' hK'
      obtain ⟨hc', hf'⟩ := hb'.rule
      go_simp
      try go_ints
      exact hK'
    · intro K' hK'
      simp only [Act.put, List.setIfInBounds_toArray, List.set_cons_zero, List.set_cons_succ]
      exact hK'
  iterate 1
    apply Flow.asg _ rfl
    · intro K' hK'
      simp only [Act.put, Act.eval, List.setIfInBounds_toArray, List.set_cons_zero, List.set_cons_succ, arr_getD, List.getD_cons_zero, List.getD_cons_succ]
      exact hK'
  refine Flow.done ?_
  go_wp2_with fail
  go_ret
  exact ⟨rfl, hb2.trans HB2⟩

end Go.Proofs.YtahfkahfaiidgaaGreatDoor


/-! page.Means; slices.Equal of numbers; blank pages. -/
namespace Go.Proofs.YtahfkahfaiidgaaGreatDoor
open Go.RowKit

/-- A byte list reads as bytes. -/
def Bytes (zs : List Int) : Prop := ∀ z ∈ zs, 0 ≤ z ∧ z ≤ 255
def valOf (zs : List Int) (i : Nat) : Int := zs.getD i 0
theorem Bytes.at {zs : List Int} (h : Bytes zs) (i : Nat) : 0 ≤ valOf zs i ∧ valOf zs i ≤ 255 := by
  unfold valOf
  rcases Nat.lt_or_ge i zs.length with hl | hl
  · have := h zs[i] (List.getElem_mem hl)
    simpa [List.getD, hl] using this
  · simp [List.getD, List.getElem?_eq_none hl]

end Go.Proofs.YtahfkahfaiidgaaGreatDoor


/-! At, halving and pasting. -/
namespace Go.Proofs.YtahfkahfaiidgaaGreatDoor
open Go.RowKit

/-! ### plain -/
/-- The ink at a place, also beyond the page. -/
def atI (bs : List Bool) (W H x y : Int) : Bool := decide (0 ≤ x ∧ x < W ∧ 0 ≤ y ∧ y < H) && bs.getD (y.toNat * W.toNat + x.toNat) false
def pix (bs : List Bool) (W x y : Nat) : Bool := bs.getD (y * W + x) false
theorem atI_in (bs : List Bool) (W H x y : Nat) (hx : x < W) (hy : y < H) : atI bs W H x y = pix bs W x y := by
  unfold atI pix
  have : decide (0 ≤ (x : Int) ∧ (x : Int) < W ∧ 0 ≤ (y : Int) ∧ (y : Int) < H) = true := by simp; omega
  rw [this]; simp
theorem atI_out (bs : List Bool) (W H x y : Int) (h : ¬ (0 ≤ x ∧ x < W ∧ 0 ≤ y ∧ y < H)) : atI bs W H x y = false := by
  unfold atI; simp only [h]; simp

/-- The cell of a place. -/
theorem Reads.place {w : World} {A : Option Addr} {W H : Nat} {bs : List Bool} (h : Reads w 1 A (W * H) (bs.map .bool)) {x y : Nat} (hx : x < W) (hy : y < H) :
    ∃ ad, A = some ad ∧ w.cell? (ad.add (y * W + x)) = some (.bool (pix bs W x y)) := by
  have hk := place_lt hx hy
  obtain ⟨ad, u, e, hu, hc⟩ := h.at_ hk
  refine ⟨ad, e, ?_⟩
  have hl : y * W + x < bs.length := by have := h.1; simp at this; omega
  have hu' : u = .bool (pix bs W x y) := by simpa [pix, List.getD, hl] using hu.symm
  rw [hc, hu']

/-! ### bedref2.At -/
set_option maxRecDepth 100000 in
set_option maxHeartbeats 1000000 in
theorem at_any (W H : Nat) (A : Option Addr) (c : Nat) (bs : List Bool) (x y : Int) (w : World) (hr : Reads w 1 A (W * H) (bs.map .bool)) (hW : W ≤ 4000) (hH : H ≤ 4000) :
    Calls Tryz.prog 103 #[.agg #[.int .i64 W, .int .i64 H, .slice A (W * H) c], .int .i64 x, .int .i64 y] w fun e w' => e = .returned (.bool (atI bs W H x y)) ∧ Bl w w' := by
  cases h1 : inB x 0 ((W : Int) - 1)
  case false =>
    have ha : atI bs W H x y = false := atI_out _ _ _ _ _ (by have := inB_false.1 h1; omega)
    have Ha := Lib.hid ha; clear ha hr
    go_enter Tryz.func103, Tryz.ntmps103
    go_wp2_with (go_at_call 33; refine (in_any _ _ _ _).mono ?_; rintro e w' ⟨rfl, rfl⟩)
    go_ret
    exact ⟨ret_bool Ha.out.symm, (Bl.refl _).alloc _⟩
  case true =>
    cases h2 : inB y 0 ((H : Int) - 1)
    case false =>
      have ha : atI bs W H x y = false := atI_out _ _ _ _ _ (by have := inB_false.1 h2; omega)
      have Ha := Lib.hid ha; clear ha hr
      go_enter Tryz.func103, Tryz.ntmps103
      go_wp2_with (go_at_call 33; refine (in_any _ _ _ _).mono ?_; rintro e w' ⟨rfl, rfl⟩)
      go_ret
      exact ⟨ret_bool Ha.out.symm, (Bl.refl _).alloc _⟩
    case true =>
      obtain ⟨a1, a2⟩ := inB_true.1 h1
      obtain ⟨b1, b2⟩ := inB_true.1 h2
      obtain ⟨x, rfl⟩ := Int.eq_ofNat_of_zero_le a1
      obtain ⟨y, rfl⟩ := Int.eq_ofNat_of_zero_le b1
      have hx : x < W := by omega
      have hy : y < H := by omega
      have ha := atI_in bs W H x y hx hy
      obtain ⟨ad, rfl, hc⟩ := hr.place hx hy
      have hk := place_lt hx hy
      obtain ⟨k, hkk⟩ : ∃ k, k = y * W + x := ⟨_, rfl⟩
      rw [← hkk] at hc hk
      have ek : (y : Int) * (W : Int) + (x : Int) = (k : Int) := by rw [hkk]; simp
      have hkl : (k : Int) < (W : Int) * (H : Int) := by have := Int.natCast_mul W H; omega
      have hq : (0 : Int) ≤ (y : Int) * (W : Int) ∧ (y : Int) * (W : Int) ≤ 16000000 := by
        have h5 := Int.natCast_mul y W
        have h6 := Nat.mul_le_mul (show y ≤ 4000 by omega) hW
        omega
      have hlt : ad.block < w.heap.size := by have := World.block_lt_of_cell? w _ hc; rwa [block_of_add] at this
      have hc' : ∀ o, (w.alloc o).cell? (ad.add k) = some (.bool (pix bs W x y)) := fun o => ((Bl.refl w).alloc o).at hc
      have Ha := Lib.hid ha; have Hkk := Lib.hid hkk
      clear ha hkk hr
      go_enter Tryz.func103, Tryz.ntmps103
      go_wp2_with (go_at_call 33; refine (in_any _ _ _ _).mono ?_; rintro e w' ⟨rfl, rfl⟩)
      go_ret
      exact ⟨ret_bool Ha.out.symm, (Bl.refl _).alloc _⟩

end Go.Proofs.YtahfkahfaiidgaaGreatDoor


/-! A page and an error: both outcomes under one roof; pages as grids. -/
namespace Go.Proofs.YtahfkahfaiidgaaGreatDoor
open Go.RowKit

/-- The page that a function answers with its error: made anew, or empty. -/
def Res (B : Nat) (w : World) (err : Int) (W H : Nat) (cells : List Value) (a b : Int) (R : Option Addr) (m c : Nat) : Prop :=
  (err = 0 → NPage B w (.agg #[.int .i64 a, .int .i64 b, .slice R m c]) W H cells) ∧ (err ≠ 0 → a = 0 ∧ b = 0 ∧ R = none ∧ m = 0 ∧ c = 0)
theorem Res.bl {B : Nat} {w w' : World} {err : Int} {W H : Nat} {cells : List Value} {a b : Int} {R : Option Addr} {m c : Nat} (h : Res B w err W H cells a b R m c) (hb : Bl w w') : Res B w' err W H cells a b R m c :=
  ⟨fun e => (h.1 e).bl hb, h.2⟩
theorem Res.mono {B B' : Nat} {w : World} {err : Int} {W H : Nat} {cells : List Value} {a b : Int} {R : Option Addr} {m c : Nat} (h : Res B w err W H cells a b R m c) (hb : B' ≤ B) : Res B' w err W H cells a b R m c :=
  ⟨fun e => (h.1 e).mono hb, h.2⟩
theorem Res.zero (B : Nat) (w : World) {err : Int} (W H : Nat) (cells : List Value) (h : err ≠ 0) : Res B w err W H cells 0 0 none 0 0 :=
  ⟨fun e => absurd e h, fun _ => ⟨rfl, rfl, rfl, rfl, rfl⟩⟩
theorem Res.page {B : Nat} {w : World} {err : Int} {W H c : Nat} {R : Option Addr} {cells : List Value} (h : err = 0) (hr : Reads w 1 R (W * H) cells) (hn : ∀ ad, R = some ad → B ≤ ad.block) : Res B w err W H cells W H R (W * H) c :=
  ⟨fun _ => ⟨R, c, rfl, hr, hn⟩, fun e => absurd h e⟩

theorem MakesPage.bl {P : Program} {k : FuncId} {cap : Array Value} {w w' : World} {W H : Nat} {cells : List Value} (h : MakesPage P k cap w W H cells) (hb : Bl w w') : MakesPage P k cap w' W H cells :=
  ⟨h.1, fun wx hx => h.2 wx (hb.trans hx)⟩

theorem bitsIs_any (B : Nat) (err : Int) (W H : Nat) (xs : List Bool) (a b : Int) (R : Option Addr) (m c : Nat) (k : FuncId) (cap : Array Value) (w : World) (hv : Res B w err W H (xs.map .bool) a b R m c) (hk : err = 0 → MakesPage Tryz.prog k cap w W H (xs.map .bool)) (hl : err = 0 → W * H ≤ 1099511627776) :
    Calls Tryz.prog 17 #[.agg #[.int .i64 a, .int .i64 b, .slice R m c], .int .i64 err, .int .i64 err, .func (.func k) #[] cap] w fun e w' => e = .returned (.bool true) ∧ Bl w w' := by
  by_cases h : err = 0
  · have hp := hv.1 h
    have hm := hk h
    subst h
    exact bitsIs_ok W H _ xs k cap w hp.is hm (hl rfl)
  · obtain ⟨rfl, rfl, rfl, rfl, rfl⟩ := hv.2 h
    exact bitsIs_bad err _ w h

/-! ### grids -/
/-! ### turned by quarters -/
theorem Res.store {B : Nat} {w : World} {err : Int} {W H : Nat} {cells : List Value} {a b : Int} {R : Option Addr} {m c : Nat} (h : Res B w err W H cells a b R m c) {p : Addr} (hp : p.block < B) (u : Value) : Res B (w.setCell p u) err W H cells a b R m c :=
  ⟨fun e => (h.1 e).store hp u, h.2⟩

end Go.Proofs.YtahfkahfaiidgaaGreatDoor


/-! The plain law of Align and Nearest: both find the least number, the nearest of those, the first of those. -/
namespace Go.Proofs.YtahfkahfaiidgaaGreatDoor

def le3 (num far : Nat → Nat) (i j : Nat) : Prop := num i < num j ∨ (num i = num j ∧ (far i < far j ∨ (far i = far j ∧ i ≤ j)))
theorem le3.anti {num far : Nat → Nat} {i j : Nat} (h : le3 num far i j) (k : le3 num far j i) : i = j := by
  unfold le3 at h k
  omega
def BestA (num far : Nat → Nat) (m b : Nat) : Prop := b < m ∧ ∀ j, j < m → le3 num far b j
theorem BestA.start (num far : Nat → Nat) : BestA num far 1 0 :=
  ⟨by omega, fun j hj => by obtain rfl : j = 0 := by omega
                            unfold le3; omega⟩
theorem BestA.take {num far : Nat → Nat} {m b : Nat} (h : BestA num far m b) (hm : num m < num b ∨ (num m = num b ∧ far m < far b)) : BestA num far (m + 1) m := by
  refine ⟨by omega, fun j hj => ?_⟩
  rcases Nat.lt_or_ge j m with hl | hl
  · have := h.2 j hl
    unfold le3 at this ⊢
    omega
  · obtain rfl : j = m := by omega
    unfold le3; omega
theorem BestA.keep {num far : Nat → Nat} {m b : Nat} (h : BestA num far m b) (hm : ¬ (num m < num b ∨ (num m = num b ∧ far m < far b))) : BestA num far (m + 1) b := by
  have hb := h.1
  refine ⟨by omega, fun j hj => ?_⟩
  rcases Nat.lt_or_ge j m with hl | hl
  · exact h.2 j hl
  · obtain rfl : j = m := by omega
    unfold le3; omega

def Seen (far : Nat → Nat) (K f m j : Nat) : Prop := j < K ∧ (far j < f ∨ (far j = f ∧ j < m))
def BestN (num far : Nat → Nat) (K f m b : Nat) : Prop := Seen far K f m b ∧ ∀ j, Seen far K f m j → le3 num far b j
theorem BestN.skip {num far : Nat → Nat} {K f m b : Nat} (h : BestN num far K f m b) (hf : far m ≠ f) : BestN num far K f (m + 1) b := by
  refine ⟨?_, fun j hj => h.2 j ?_⟩
  · have := h.1; unfold Seen at this ⊢; omega
  · unfold Seen at hj ⊢
    rcases Nat.lt_or_ge j m with hl | hl
    · omega
    · rcases hj with ⟨h1, h2 | ⟨h2, h3⟩⟩
      · omega
      · obtain rfl : j = m := by omega
        exact absurd h2 hf
theorem Seen.skip {far : Nat → Nat} {K f m : Nat} (h : ∀ j, ¬ Seen far K f m j) (hf : far m ≠ f) : ∀ j, ¬ Seen far K f (m + 1) j := by
  intro j hj
  refine h j ?_
  unfold Seen at hj ⊢
  rcases Nat.lt_or_ge j m with hl | hl
  · omega
  · rcases hj with ⟨h1, h2 | ⟨h2, h3⟩⟩
    · omega
    · obtain rfl : j = m := by omega
      exact absurd h2 hf
theorem BestN.first {num far : Nat → Nat} {K f m : Nat} (h : ∀ j, ¬ Seen far K f m j) (hm : m < K) (hf : far m = f) : BestN num far K f (m + 1) m := by
  refine ⟨⟨hm, Or.inr ⟨hf, by omega⟩⟩, fun j hj => ?_⟩
  have hn := h j
  unfold Seen at hj hn
  obtain rfl : j = m := by omega
  unfold le3; omega
theorem BestN.take {num far : Nat → Nat} {K f m b : Nat} (h : BestN num far K f m b) (hm : m < K) (hf : far m = f) (hn : num m < num b) : BestN num far K f (m + 1) m := by
  refine ⟨⟨hm, Or.inr ⟨hf, by omega⟩⟩, fun j hj => ?_⟩
  by_cases hs : Seen far K f m j
  · have := h.2 j hs
    unfold le3 at this ⊢
    omega
  · unfold Seen at hj hs
    obtain rfl : j = m := by omega
    unfold le3; omega
theorem BestN.keep {num far : Nat → Nat} {K f m b : Nat} (h : BestN num far K f m b) (hf : far m = f) (hn : ¬ num m < num b) : BestN num far K f (m + 1) b := by
  have hb := h.1
  refine ⟨by unfold Seen at hb ⊢; omega, fun j hj => ?_⟩
  by_cases hs : Seen far K f m j
  · exact h.2 j hs
  · unfold Seen at hj hs hb
    obtain rfl : j = m := by omega
    unfold le3; omega
theorem BestN.level {num far : Nat → Nat} {K f b : Nat} (h : BestN num far K f K b) : BestN num far K (f + 1) 0 b := by
  refine ⟨by have := h.1; unfold Seen at this ⊢; omega, fun j hj => h.2 j (by unfold Seen at hj ⊢; omega)⟩
theorem Seen.level {far : Nat → Nat} {K f : Nat} (h : ∀ j, ¬ Seen far K f K j) : ∀ j, ¬ Seen far K (f + 1) 0 j :=
  fun j hj => h j (by unfold Seen at hj ⊢; omega)
/-- Both are the same place. -/
theorem best_same {num far : Nat → Nat} {K f b c : Nat} (h : BestA num far K b) (k : BestN num far K f 0 c) (hf : ∀ j, j < K → far j < f) : b = c :=
  le3.anti (h.2 c k.1.1) (k.2 b ⟨h.1, Or.inl (hf b h.1)⟩)
theorem seen_all {far : Nat → Nat} {K f : Nat} (h : ∀ j, ¬ Seen far K f 0 j) (hK : 0 < K) (hf : ∀ j, j < K → far j < f) : False := h 0 ⟨hK, Or.inl (hf 0 hK)⟩

/-! ### places by number -/
def dxOf (r j : Nat) : Int := ((j % (2 * r + 1) : Nat) : Int) - r
def dyOf (r j : Nat) : Int := ((j / (2 * r + 1) : Nat) : Int) - r
def farOf (r j : Nat) : Nat := (dxOf r j).natAbs + (dyOf r j).natAbs
theorem dxOf_at (r v u : Nat) (hu : u < 2 * r + 1) : dxOf r (v * (2 * r + 1) + u) = (u : Int) - r := by
  unfold dxOf
  rw [Nat.mul_comm, Nat.mul_add_mod, Nat.mod_eq_of_lt hu]
theorem dyOf_at (r v u : Nat) (hu : u < 2 * r + 1) : dyOf r (v * (2 * r + 1) + u) = (v : Int) - r := by
  unfold dyOf
  rw [Nat.mul_comm, Nat.mul_add_div (by omega), Nat.div_eq_of_lt hu, Nat.add_zero]
theorem farOf_lt (r j : Nat) (hj : j < (2 * r + 1) * (2 * r + 1)) : farOf r j < 2 * r + 1 := by
  have h1 : j % (2 * r + 1) < 2 * r + 1 := Nat.mod_lt _ (by omega)
  have h2 : j / (2 * r + 1) < 2 * r + 1 := Nat.div_lt_of_lt_mul hj
  unfold farOf dxOf dyOf
  generalize j % (2 * r + 1) = a at h1 ⊢
  generalize j / (2 * r + 1) = b at h2 ⊢
  omega

/-- How many of the first n places differ. -/
def differs (bs cs : List Bool) (W H : Nat) (dx dy : Int) (i : Nat) : Bool := bs.getD i false != atI cs W H (((i % W : Nat) : Int) - dx) (((i / W : Nat) : Int) - dy)
def cntD (bs cs : List Bool) (W H : Nat) (dx dy : Int) : Nat → Nat
  | 0 => 0
  | n + 1 => cntD bs cs W H dx dy n + (if differs bs cs W H dx dy n then 1 else 0)
theorem cntD_le (bs cs : List Bool) (W H : Nat) (dx dy : Int) (n : Nat) : cntD bs cs W H dx dy n ≤ n := by
  induction n with
  | zero => exact Nat.le_refl 0
  | succ n ih => unfold cntD; split <;> omega
/-! ### the state of the two searches -/
def StA (num : Nat → Nat) (r m : Nat) (x y n : Int) : Prop :=
  (m = 0 ∧ x = 0 ∧ y = 0 ∧ n = -1) ∨ ∃ b, BestA num (farOf r) m b ∧ x = dxOf r b ∧ y = dyOf r b ∧ n = num b
def StN (num : Nat → Nat) (r f m : Nat) (x y n : Int) (found : Bool) : Prop :=
  (found = false ∧ n = 0 ∧ ∀ j, ¬ Seen (farOf r) ((2 * r + 1) * (2 * r + 1)) f m j) ∨ (found = true ∧ ∃ b, BestN num (farOf r) ((2 * r + 1) * (2 * r + 1)) f m b ∧ x = dxOf r b ∧ y = dyOf r b ∧ n = num b)
theorem StA.same {num : Nat → Nat} {r : Nat} {x y n x' y' n' : Int} {found : Bool} (h : StA num r ((2 * r + 1) * (2 * r + 1)) x y n) (k : StN num r (2 * r + 1) 0 x' y' n' found) : x = x' ∧ y = y' ∧ n = n' := by
  have hK : 0 < (2 * r + 1) * (2 * r + 1) := Nat.mul_pos (by omega) (by omega)
  rcases h with ⟨h, _⟩ | ⟨b, hb, rfl, rfl, rfl⟩
  · omega
  · rcases k with ⟨_, _, k⟩ | ⟨_, c, hc, rfl, rfl, rfl⟩
    · exact absurd (seen_all k hK (farOf_lt r)) id
    · rw [best_same hb hc (farOf_lt r)]
      exact ⟨rfl, rfl, rfl⟩
/-- One place more in Align. -/
theorem StA.step {num : Nat → Nat} {r m : Nat} {x y n : Int} (h : StA num r m x y n) :
    (n < 0 ∨ (num m : Int) < n ∨ ((num m : Int) = n ∧ (farOf r m : Int) < x.natAbs + y.natAbs) → StA num r (m + 1) (dxOf r m) (dyOf r m) (num m)) ∧
    (¬ (n < 0 ∨ (num m : Int) < n ∨ ((num m : Int) = n ∧ (farOf r m : Int) < x.natAbs + y.natAbs)) → StA num r (m + 1) x y n) := by
  rcases h with ⟨rfl, rfl, rfl, rfl⟩ | ⟨b, hb, rfl, rfl, rfl⟩
  · exact ⟨fun _ => Or.inr ⟨0, BestA.start num _, rfl, rfl, rfl⟩, fun hn => absurd (Or.inl (by decide)) hn⟩
  · have e : ((dxOf r b).natAbs : Int) + (dyOf r b).natAbs = (farOf r b : Int) := by unfold farOf; simp
    rw [e]
    refine ⟨fun hc => Or.inr ⟨m, hb.take ?_, rfl, rfl, rfl⟩, fun hc => Or.inr ⟨b, hb.keep ?_, rfl, rfl, rfl⟩⟩
    · rcases hc with hc | hc | ⟨hc, hd⟩ <;> omega
    · omega
/-- One place more in Nearest. -/
theorem StN.skip {num : Nat → Nat} {r f m : Nat} {x y n : Int} {found : Bool} (h : StN num r f m x y n found) (hf : farOf r m ≠ f) : StN num r f (m + 1) x y n found := by
  rcases h with ⟨h1, h2, h3⟩ | ⟨h1, b, hb, h2⟩
  · exact Or.inl ⟨h1, h2, Seen.skip h3 hf⟩
  · exact Or.inr ⟨h1, b, hb.skip hf, h2⟩
theorem StN.take {num : Nat → Nat} {r f m : Nat} {x y n : Int} {found : Bool} (h : StN num r f m x y n found) (hm : m < (2 * r + 1) * (2 * r + 1)) (hf : farOf r m = f) (hc : found = false ∨ (num m : Int) < n) : StN num r f (m + 1) (dxOf r m) (dyOf r m) (num m) true := by
  rcases h with ⟨h1, h2, h3⟩ | ⟨h1, b, hb, rfl, rfl, rfl⟩
  · exact Or.inr ⟨rfl, m, BestN.first h3 hm hf, rfl, rfl, rfl⟩
  · have hlt : num m < num b := by
      rcases hc with hc | hc
      · simp [h1] at hc
      · omega
    exact Or.inr ⟨rfl, m, hb.take hm hf hlt, rfl, rfl, rfl⟩
theorem StN.keep {num : Nat → Nat} {r f m : Nat} {x y n : Int} {found : Bool} (h : StN num r f m x y n found) (hf : farOf r m = f) (hc : ¬ (found = false ∨ (num m : Int) < n)) : StN num r f (m + 1) x y n found := by
  rcases h with ⟨h1, h2, h3⟩ | ⟨h1, b, hb, rfl, rfl, rfl⟩
  · exact absurd (Or.inl h1) hc
  · exact Or.inr ⟨h1, b, hb.keep hf (by omega), rfl, rfl, rfl⟩
theorem StN.level {num : Nat → Nat} {r f : Nat} {x y n : Int} {found : Bool} (h : StN num r f ((2 * r + 1) * (2 * r + 1)) x y n found) : StN num r (f + 1) 0 x y n found := by
  rcases h with ⟨h1, h2, h3⟩ | ⟨h1, b, hb, h2⟩
  · exact Or.inl ⟨h1, h2, Seen.level h3⟩
  · exact Or.inr ⟨h1, b, hb.level, h2⟩
theorem StN.start (num : Nat → Nat) (r : Nat) (x y : Int) : StN num r 0 0 x y 0 false :=
  Or.inl ⟨rfl, rfl, fun j hj => by unfold Seen at hj; omega⟩

end Go.Proofs.YtahfkahfaiidgaaGreatDoor


/-! The plain law of forms.find and bedref2.FoundOf: of the places that count, both find the one with the least number, the nearest of those, the first of those. -/
namespace Go.Proofs.YtahfkahfaiidgaaGreatDoor

def BestO (ok : Nat → Bool) (num far : Nat → Nat) (m b : Nat) : Prop := b < m ∧ ok b = true ∧ ∀ j, j < m → ok j = true → le3 num far b j
/-- The state of forms.find. -/
def StO (ok : Nat → Bool) (num : Nat → Nat) (r m : Nat) (x y n : Int) : Prop :=
  ((∀ j, j < m → ok j = false) ∧ x = 0 ∧ y = 0 ∧ n = -1) ∨ ∃ b, BestO ok num (farOf r) m b ∧ x = dxOf r b ∧ y = dyOf r b ∧ n = num b
theorem StO.start (ok : Nat → Bool) (num : Nat → Nat) (r : Nat) : StO ok num r 0 0 0 (-1) := .inl ⟨fun _j hj => absurd hj (Nat.not_lt_zero _), rfl, rfl, rfl⟩
theorem StO.skip {ok : Nat → Bool} {num : Nat → Nat} {r m : Nat} {x y n : Int} (h : StO ok num r m x y n) (hk : ok m = false) : StO ok num r (m + 1) x y n := by
  rcases h with ⟨h1, h2⟩ | ⟨b, ⟨hb, hb2, hb3⟩, h2⟩
  · refine .inl ⟨fun j hj => ?_, h2⟩
    rcases Nat.lt_succ_iff_lt_or_eq.1 hj with hl | rfl
    · exact h1 j hl
    · exact hk
  · refine .inr ⟨b, ⟨by omega, hb2, fun j hj hj2 => ?_⟩, h2⟩
    rcases Nat.lt_succ_iff_lt_or_eq.1 hj with hl | rfl
    · exact hb3 j hl hj2
    · rw [hk] at hj2; cases hj2
theorem StO.step {ok : Nat → Bool} {num : Nat → Nat} {r m : Nat} {x y n : Int} (h : StO ok num r m x y n) (hk : ok m = true) :
    (n < 0 ∨ (num m : Int) < n ∨ ((num m : Int) = n ∧ (farOf r m : Int) < x.natAbs + y.natAbs) → StO ok num r (m + 1) (dxOf r m) (dyOf r m) (num m)) ∧
    (¬ (n < 0 ∨ (num m : Int) < n ∨ ((num m : Int) = n ∧ (farOf r m : Int) < x.natAbs + y.natAbs)) → StO ok num r (m + 1) x y n) := by
  rcases h with ⟨h1, rfl, rfl, rfl⟩ | ⟨b, ⟨hb, hb2, hb3⟩, rfl, rfl, rfl⟩
  · refine ⟨fun _ => .inr ⟨m, ⟨by omega, hk, fun j hj hj2 => ?_⟩, rfl, rfl, rfl⟩, fun hn => absurd (Or.inl (by decide)) hn⟩
    rcases Nat.lt_succ_iff_lt_or_eq.1 hj with hl | rfl
    · rw [h1 j hl] at hj2; cases hj2
    · unfold le3; omega
  · have e : ((dxOf r b).natAbs : Int) + (dyOf r b).natAbs = (farOf r b : Int) := by unfold farOf; simp
    rw [e]
    refine ⟨fun hc => .inr ⟨m, ⟨by omega, hk, fun j hj hj2 => ?_⟩, rfl, rfl, rfl⟩, fun hc => .inr ⟨b, ⟨by omega, hb2, fun j hj hj2 => ?_⟩, rfl, rfl, rfl⟩⟩
    · rcases Nat.lt_succ_iff_lt_or_eq.1 hj with hl | rfl
      · have := hb3 j hl hj2
        unfold le3 at this ⊢
        omega
      · unfold le3; omega
    · rcases Nat.lt_succ_iff_lt_or_eq.1 hj with hl | rfl
      · exact hb3 j hl hj2
      · unfold le3; omega
/-- The search as a function. -/
def stepO (ok : Nat → Bool) (num : Nat → Nat) (r m : Nat) (p : Int × Int × Int) : Int × Int × Int :=
  if ok m = true ∧ (p.2.2 < 0 ∨ (num m : Int) < p.2.2 ∨ ((num m : Int) = p.2.2 ∧ (farOf r m : Int) < p.1.natAbs + p.2.1.natAbs)) then (dxOf r m, dyOf r m, (num m : Int)) else p
def findF (ok : Nat → Bool) (num : Nat → Nat) (r : Nat) : Nat → Int × Int × Int
  | 0 => (0, 0, -1)
  | m + 1 => stepO ok num r m (findF ok num r m)
theorem findF_st (ok : Nat → Bool) (num : Nat → Nat) (r : Nat) : ∀ m, StO ok num r m (findF ok num r m).1 (findF ok num r m).2.1 (findF ok num r m).2.2
  | 0 => StO.start ok num r
  | m + 1 => by
    have ih := findF_st ok num r m
    show StO ok num r (m + 1) (stepO ok num r m (findF ok num r m)).1 (stepO ok num r m (findF ok num r m)).2.1 (stepO ok num r m (findF ok num r m)).2.2
    generalize findF ok num r m = p at ih
    unfold stepO
    by_cases hk : ok m = true
    · by_cases hc : p.2.2 < 0 ∨ (num m : Int) < p.2.2 ∨ ((num m : Int) = p.2.2 ∧ (farOf r m : Int) < p.1.natAbs + p.2.1.natAbs)
      · rw [if_pos ⟨hk, hc⟩]
        exact (ih.step hk).1 hc
      · rw [if_neg (fun h => hc h.2)]
        exact (ih.step hk).2 hc
    · rw [if_neg (fun h => hk h.1)]
      exact ih.skip (by simpa using hk)
/-- The bounds of what is found. -/
theorem StO.bd {ok : Nat → Bool} {num : Nat → Nat} {r m : Nat} {x y n : Int} (h : StO ok num r m x y n) (hm : m ≤ (2 * r + 1) * (2 * r + 1)) (hr : r ≤ 40) : (-40 ≤ x ∧ x ≤ 40) ∧ (-40 ≤ y ∧ y ≤ 40) := by
  rcases h with ⟨_, rfl, rfl, _⟩ | ⟨b, hb, rfl, rfl, _⟩
  · omega
  · have h1 : b % (2 * r + 1) < 2 * r + 1 := Nat.mod_lt _ (by omega)
    have h2 : b / (2 * r + 1) < 2 * r + 1 := Nat.div_lt_of_lt_mul (Nat.lt_of_lt_of_le hb.1 hm)
    unfold dxOf dyOf
    generalize b % (2 * r + 1) = p at h1 ⊢
    generalize b / (2 * r + 1) = q at h2 ⊢
    omega
/-! ### bedref2.Nearest -/
def SeenO (ok : Nat → Bool) (far : Nat → Nat) (K f m j : Nat) : Prop := Seen far K f m j ∧ ok j = true
def BestP (ok : Nat → Bool) (num far : Nat → Nat) (K f m b : Nat) : Prop := SeenO ok far K f m b ∧ ∀ j, SeenO ok far K f m j → le3 num far b j
def StP (ok : Nat → Bool) (num : Nat → Nat) (r f m : Nat) (x y n : Int) (found : Bool) : Prop :=
  (found = false ∧ x = 0 ∧ y = 0 ∧ n = 0 ∧ ∀ j, ¬ SeenO ok (farOf r) ((2 * r + 1) * (2 * r + 1)) f m j) ∨ (found = true ∧ ∃ b, BestP ok num (farOf r) ((2 * r + 1) * (2 * r + 1)) f m b ∧ x = dxOf r b ∧ y = dyOf r b ∧ n = num b)
/-- Nothing new is seen at m: the state stays. -/
theorem Seen.succ {far : Nat → Nat} {K f m j : Nat} (h : Seen far K f (m + 1) j) : Seen far K f m j ∨ (j = m ∧ far m = f) := by
  unfold Seen at h ⊢
  rcases h with ⟨h1, h2 | ⟨h2, h3⟩⟩
  · exact .inl ⟨h1, .inl h2⟩
  · rcases Nat.lt_succ_iff_lt_or_eq.1 h3 with h | rfl
    · exact .inl ⟨h1, .inr ⟨h2, h⟩⟩
    · exact .inr ⟨rfl, h2⟩
theorem Seen.mono {far : Nat → Nat} {K f m j : Nat} (h : Seen far K f m j) : Seen far K f (m + 1) j := by
  unfold Seen at h ⊢
  omega
theorem StP.skip {ok : Nat → Bool} {num : Nat → Nat} {r f m : Nat} {x y n : Int} {found : Bool} (h : StP ok num r f m x y n found) (hf : farOf r m ≠ f ∨ ok m = false) : StP ok num r f (m + 1) x y n found := by
  have key : ∀ j, SeenO ok (farOf r) ((2 * r + 1) * (2 * r + 1)) f (m + 1) j → SeenO ok (farOf r) ((2 * r + 1) * (2 * r + 1)) f m j := fun j hj => by
    rcases hj.1.succ with h1 | ⟨rfl, h2⟩
    · exact ⟨h1, hj.2⟩
    · rcases hf with hf | hf
      · exact absurd h2 hf
      · have h3 := hj.2
        rw [hf] at h3; cases h3
  rcases h with ⟨h1, h2, h3, h4, h5⟩ | ⟨h1, b, ⟨hb, hb2⟩, h2⟩
  · exact .inl ⟨h1, h2, h3, h4, fun j hj => h5 j (key j hj)⟩
  · exact .inr ⟨h1, b, ⟨⟨hb.1.mono, hb.2⟩, fun j hj => hb2 j (key j hj)⟩, h2⟩
theorem StP.take {ok : Nat → Bool} {num : Nat → Nat} {r f m : Nat} {x y n : Int} {found : Bool} (h : StP ok num r f m x y n found) (hm : m < (2 * r + 1) * (2 * r + 1)) (hf : farOf r m = f) (hk : ok m = true) (hc : found = false ∨ (num m : Int) < n) : StP ok num r f (m + 1) (dxOf r m) (dyOf r m) (num m) true := by
  refine .inr ⟨rfl, m, ⟨⟨⟨hm, .inr ⟨hf, by omega⟩⟩, hk⟩, fun j hj => ?_⟩, rfl, rfl, rfl⟩
  rcases hj.1.succ with h1 | ⟨rfl, -⟩
  · rcases h with ⟨-, -, -, -, h5⟩ | ⟨hfd, b, ⟨hb, hb2⟩, -, -, hn⟩
    · exact absurd ⟨h1, hj.2⟩ (h5 j)
    · have hl := hb2 j ⟨h1, hj.2⟩
      have hlt : num m < num b := by
        rcases hc with hc | hc
        · rw [hfd] at hc; cases hc
        · omega
      unfold le3 at hl ⊢
      omega
  · unfold le3; omega
theorem StP.keep {ok : Nat → Bool} {num : Nat → Nat} {r f m : Nat} {x y n : Int} {found : Bool} (h : StP ok num r f m x y n found) (hf : farOf r m = f) (hc : ¬ (found = false ∨ (num m : Int) < n)) : StP ok num r f (m + 1) x y n found := by
  rcases h with ⟨h1, -⟩ | ⟨h1, b, ⟨hb, hb2⟩, rfl, rfl, rfl⟩
  · exact absurd (Or.inl h1) hc
  · refine .inr ⟨h1, b, ⟨⟨hb.1.mono, hb.2⟩, fun j hj => ?_⟩, rfl, rfl, rfl⟩
    rcases hj.1.succ with h2 | ⟨rfl, h2⟩
    · exact hb2 j ⟨h2, hj.2⟩
    · have hb3 := hb.1
      unfold Seen at hb3
      unfold le3
      omega
theorem StP.level {ok : Nat → Bool} {num : Nat → Nat} {r f : Nat} {x y n : Int} {found : Bool} (h : StP ok num r f ((2 * r + 1) * (2 * r + 1)) x y n found) : StP ok num r (f + 1) 0 x y n found := by
  have key : ∀ j, Seen (farOf r) ((2 * r + 1) * (2 * r + 1)) f ((2 * r + 1) * (2 * r + 1)) j ↔ Seen (farOf r) ((2 * r + 1) * (2 * r + 1)) (f + 1) 0 j := fun j => by unfold Seen; omega
  rcases h with ⟨h1, h2, h3, h4, h5⟩ | ⟨h1, b, ⟨hb, hb2⟩, h2⟩
  · exact .inl ⟨h1, h2, h3, h4, fun j hj => h5 j ⟨(key j).2 hj.1, hj.2⟩⟩
  · exact .inr ⟨h1, b, ⟨⟨(key b).1 hb.1, hb.2⟩, fun j hj => hb2 j ⟨(key j).2 hj.1, hj.2⟩⟩, h2⟩
theorem StP.start (ok : Nat → Bool) (num : Nat → Nat) (r : Nat) : StP ok num r 0 0 0 0 0 false :=
  .inl ⟨rfl, rfl, rfl, rfl, fun j hj => by have := hj.1; unfold Seen at this; omega⟩
theorem StP.bd {ok : Nat → Bool} {num : Nat → Nat} {r f m : Nat} {x y n : Int} {found : Bool} (h : StP ok num r f m x y n found) (hr : r ≤ 40) : (-40 ≤ x ∧ x ≤ 40) ∧ (-40 ≤ y ∧ y ≤ 40) := by
  rcases h with ⟨_, rfl, rfl, _⟩ | ⟨_, b, hb, rfl, rfl, _⟩
  · omega
  · have hK := hb.1.1.1
    have h1 : b % (2 * r + 1) < 2 * r + 1 := Nat.mod_lt _ (by omega)
    have h2 : b / (2 * r + 1) < 2 * r + 1 := Nat.div_lt_of_lt_mul hK
    unfold dxOf dyOf
    generalize b % (2 * r + 1) = p at h1 ⊢
    generalize b / (2 * r + 1) = q at h2 ⊢
    omega
/-- Both searches find the same, if any place counts. -/
theorem StO.same {ok : Nat → Bool} {num : Nat → Nat} {r : Nat} {x y n x' y' n' : Int} {found : Bool} (h : StO ok num r ((2 * r + 1) * (2 * r + 1)) x y n) (k : StP ok num r (2 * r + 1) 0 x' y' n' found) (hex : ∃ j, j < (2 * r + 1) * (2 * r + 1) ∧ ok j = true) : x = x' ∧ y = y' ∧ n = n' ∧ 0 ≤ n := by
  obtain ⟨j, hj, hk⟩ := hex
  rcases h with ⟨h, _⟩ | ⟨b, ⟨hb, hb2, hb3⟩, rfl, rfl, rfl⟩
  · rw [h j hj] at hk; cases hk
  · rcases k with ⟨-, -, -, -, k⟩ | ⟨-, c, ⟨⟨hc1, hc2⟩, hc3⟩, rfl, rfl, rfl⟩
    · exact absurd ⟨⟨hj, .inl (farOf_lt r j hj)⟩, hk⟩ (k j)
    · have e : b = c := le3.anti (hb3 c hc1.1 hc2) (hc3 b ⟨⟨hb, .inl (farOf_lt r b hb)⟩, hb2⟩)
      subst e
      exact ⟨rfl, rfl, rfl, by omega⟩
/-- What bedref2.Nearest finds is what the function says. -/
theorem StP.eq {ok : Nat → Bool} {num : Nat → Nat} {r : Nat} {x y n : Int} {found : Bool} (k : StP ok num r (2 * r + 1) 0 x y n found) (hex : ∃ j, j < (2 * r + 1) * (2 * r + 1) ∧ ok j = true) : (x, y, n) = findF ok num r ((2 * r + 1) * (2 * r + 1)) ∧ 0 ≤ n := by
  obtain ⟨e1, e2, e3, e4⟩ := (findF_st ok num r ((2 * r + 1) * (2 * r + 1))).same k hex
  refine ⟨?_, by omega⟩
  rw [← e1, ← e2, ← e3]
end Go.Proofs.YtahfkahfaiidgaaGreatDoor


/-! Sums of numbers, tables of numbers in memory. -/
namespace Go.Proofs.YtahfkahfaiidgaaGreatDoor
open Go.RowKit

/-! ### sums -/
def sumN (f : Nat → Nat) : Nat → Nat
  | 0 => 0
  | n + 1 => sumN f n + f n
/-! ### a table of numbers in memory -/
def tabL (N : Nat) (f : Nat → Int) : List Int := (List.range N).map f
end Go.Proofs.YtahfkahfaiidgaaGreatDoor


/-! The plain law of leaning and of profiles. -/
namespace Go.Proofs.YtahfkahfaiidgaaGreatDoor
open Go.RowKit

/-! ### a number that leans -/
def shiftI (n : Int) : Int := if n < 0 then -roundI (-n) 1024 else roundI n 1024
def leanI (W : Nat) (n : Int) (x : Nat) : Int := shiftI (n * ((x : Int) - ((W : Int) - 1) / 2))
/-! ### places of ink -/
def spotL (bs : List Bool) : Nat → List Nat
  | 0 => []
  | m + 1 => spotL bs m ++ (if bs.getD m false then [m] else [])
def b1 (b : Bool) : Nat := if b then 1 else 0
/-- The place in the profile. -/
def profAt (W H : Nat) (n : Int) (i : Nat) : Int := ((H / 2 : Nat) : Int) + ((i / W : Nat) : Int) + leanI W n (i % W)
def profK (W H : Nat) (n : Int) (k i : Nat) : Bool := decide (profAt W H n i = (k : Int))
/-- How much ink row k of the profile has. -/
def profN (bs : List Bool) (W H : Nat) (n : Int) (k : Nat) : Nat := sumN (fun i => b1 (bs.getD i false && profK W H n k i)) (W * H)
end Go.Proofs.YtahfkahfaiidgaaGreatDoor


/-! The plain law of ink that is moved place by place. -/
namespace Go.Proofs.YtahfkahfaiidgaaGreatDoor
open Go.RowKit

/-! ### a table of bools in memory -/
/-! ### moving -/
theorem place_parts {W H k : Nat} (hk : k < W * H) : k % W < W ∧ k / W < H ∧ (k / W) * W + k % W = k := by
  have hW : 0 < W := by rcases Nat.eq_zero_or_pos W with h0 | h0; (subst h0; simp at hk); exact h0
  exact ⟨Nat.mod_lt _ hW, Nat.div_lt_of_lt_mul hk, by have := Nat.div_add_mod k W; rw [Nat.mul_comm] at this; exact this⟩
theorem at_parts {W x : Nat} (y : Nat) (hx : x < W) : (y * W + x) % W = x ∧ (y * W + x) / W = y :=
  ⟨by rw [Nat.mul_comm, Nat.mul_add_mod, Nat.mod_eq_of_lt hx], by rw [Nat.mul_comm, Nat.mul_add_div (by omega), Nat.div_eq_of_lt hx, Nat.add_zero]⟩
end Go.Proofs.YtahfkahfaiidgaaGreatDoor


/-! The plain law of counts and of bounds. -/
namespace Go.Proofs.YtahfkahfaiidgaaGreatDoor
open Go.RowKit

/-! ### counts -/
def rowN (bs : List Bool) (W y : Nat) : Nat := sumN (fun x => b1 (pix bs W x y)) W
def colN (bs : List Bool) (W H x : Nat) : Nat := sumN (fun y => b1 (pix bs W x y)) H
theorem sumN_pos (f : Nat → Nat) : ∀ n, 0 < sumN f n ↔ ∃ i, i < n ∧ 0 < f i
  | 0 => by simp [sumN]
  | n + 1 => by
    have ih := sumN_pos f n
    simp only [sumN]
    constructor
    · intro h
      by_cases h2 : 0 < f n
      · exact ⟨n, by omega, h2⟩
      · obtain ⟨i, hi, h3⟩ := ih.1 (by omega)
        exact ⟨i, by omega, h3⟩
    · rintro ⟨i, hi, h3⟩
      by_cases h2 : i = n
      · subst h2; omega
      · have := ih.2 ⟨i, by omega, h3⟩; omega
theorem b1_pos (b : Bool) : 0 < b1 b ↔ b = true := by cases b <;> simp [b1]
theorem rowN_pos (bs : List Bool) (W y : Nat) : 0 < rowN bs W y ↔ ∃ x, x < W ∧ pix bs W x y = true := by
  unfold rowN; rw [sumN_pos]; simp only [b1_pos]
theorem colN_pos (bs : List Bool) (W H x : Nat) : 0 < colN bs W H x ↔ ∃ y, y < H ∧ pix bs W x y = true := by
  unfold colN; rw [sumN_pos]; simp only [b1_pos]

/-! ### ends -/
def Ends (f : Nat → Nat) (N x r : Nat) : Prop := (x < N ∧ 0 < f x ∧ ∀ j, j < x → f j = 0) ∧ (r < N ∧ 0 < f r ∧ ∀ j, r < j → j < N → f j = 0)
def NoEnds (f : Nat → Nat) (N : Nat) : Prop := ∀ j, j < N → f j = 0
theorem Ends.same {f : Nat → Nat} {N x r x' r' : Nat} (h : Ends f N x r) (k : Ends f N x' r') : x = x' ∧ r = r' := by
  obtain ⟨⟨h1, h2, h3⟩, h4, h5, h6⟩ := h
  obtain ⟨⟨k1, k2, k3⟩, k4, k5, k6⟩ := k
  constructor
  · rcases Nat.lt_trichotomy x x' with c | c | c
    · have := k3 x c; omega
    · exact c
    · have := h3 x' c; omega
  · rcases Nat.lt_trichotomy r r' with c | c | c
    · have := h6 r' c k4; omega
    · exact c
    · have := k6 r c h4; omega
theorem Ends.not {f : Nat → Nat} {N x r : Nat} (h : Ends f N x r) (k : NoEnds f N) : False := by
  have := k x h.1.1
  have := h.1.2.1
  omega

/-! ### bounds -/
def BoundsIs (bs : List Bool) (W H : Nat) (is : Bool) (X Y BW BH : Int) : Prop :=
  (is = false ∧ NoEnds (colN bs W H) W ∧ X = 0 ∧ Y = 0 ∧ BW = 0 ∧ BH = 0) ∨
  (is = true ∧ ∃ l r t b : Nat, Ends (colN bs W H) W l r ∧ Ends (rowN bs W) H t b ∧ X = l ∧ Y = t ∧ BW = (r : Int) - l + 1 ∧ BH = (b : Int) - t + 1)
theorem BoundsIs.same {bs : List Bool} {W H : Nat} {is is' : Bool} {X Y BW BH X' Y' BW' BH' : Int} (h : BoundsIs bs W H is X Y BW BH) (k : BoundsIs bs W H is' X' Y' BW' BH') : is = is' ∧ X = X' ∧ Y = Y' ∧ BW = BW' ∧ BH = BH' := by
  rcases h with ⟨h1, h2, h3, h4, h5, h6⟩ | ⟨h1, l, r, t, b, h2, h3, h4, h5, h6, h7⟩ <;> rcases k with ⟨k1, k2, k3, k4, k5, k6⟩ | ⟨k1, l', r', t', b', k2, k3, k4, k5, k6, k7⟩
  · exact ⟨by rw [h1, k1], by omega, by omega, by omega, by omega⟩
  · exact (k2.not h2).elim
  · exact (h2.not k2).elim
  · obtain ⟨e1, e2⟩ := h2.same k2
    obtain ⟨e3, e4⟩ := h3.same k3
    exact ⟨by rw [h1, k1], by omega, by omega, by omega, by omega⟩
theorem BoundsIs.bd {bs : List Bool} {W H : Nat} {is : Bool} {X Y BW BH : Int} (h : BoundsIs bs W H is X Y BW BH) : (0 ≤ X ∧ X ≤ W) ∧ (0 ≤ Y ∧ Y ≤ H) ∧ (0 ≤ BW ∧ BW ≤ W) ∧ (0 ≤ BH ∧ BH ≤ H) ∧ (is = true → X + BW ≤ W ∧ Y + BH ≤ H ∧ 1 ≤ BW ∧ 1 ≤ BH) := by
  rcases h with ⟨h1, h2, h3, h4, h5, h6⟩ | ⟨h1, l, r, t, b, h2, h3, h4, h5, h6, h7⟩
  · refine ⟨by omega, by omega, by omega, by omega, fun h => ?_⟩
    rw [h1] at h; cases h
  · have a1 := h2.1.1
    have a2 := h2.2.1
    have a3 := h3.1.1
    have a4 := h3.2.1
    have a5 : l ≤ r := by
      rcases Nat.lt_or_ge r l with c | c
      · have := h2.1.2.2 r c; have := h2.2.2.1; omega
      · exact c
    have a6 : t ≤ b := by
      rcases Nat.lt_or_ge b t with c | c
      · have := h3.1.2.2 b c; have := h3.2.2.1; omega
      · exact c
    exact ⟨by omega, by omega, by omega, by omega, fun _ => by omega⟩

/-- The bounds so far. -/
def BInv (bs : List Bool) (W H m : Nat) (l t r b : Int) : Prop :=
  ((∀ i, i < m → bs.getD i false = false) ∧ l = W ∧ t = H ∧ r = -1 ∧ b = -1) ∨
  ((∃ i, i < m ∧ bs.getD i false = true ∧ l = ((i % W : Nat) : Int)) ∧ (∃ i, i < m ∧ bs.getD i false = true ∧ t = ((i / W : Nat) : Int)) ∧ (∃ i, i < m ∧ bs.getD i false = true ∧ r = ((i % W : Nat) : Int)) ∧ (∃ i, i < m ∧ bs.getD i false = true ∧ b = ((i / W : Nat) : Int)) ∧
    ∀ i, i < m → bs.getD i false = true → l ≤ ((i % W : Nat) : Int) ∧ ((i % W : Nat) : Int) ≤ r ∧ t ≤ ((i / W : Nat) : Int) ∧ ((i / W : Nat) : Int) ≤ b)
theorem BInv.start (bs : List Bool) (W H : Nat) : BInv bs W H 0 W H (-1) (-1) := Or.inl ⟨fun i hi => by omega, rfl, rfl, rfl, rfl⟩
theorem BInv.no {bs : List Bool} {W H m : Nat} {l t r b : Int} (h : BInv bs W H m l t r b) (hm : bs.getD m false = false) : BInv bs W H (m + 1) l t r b := by
  rcases h with ⟨h1, h2⟩ | ⟨⟨i1, a1, b1', c1⟩, ⟨i2, a2, b2, c2⟩, ⟨i3, a3, b3, c3⟩, ⟨i4, a4, b4, c4⟩, h5⟩
  · refine Or.inl ⟨fun i hi => ?_, h2⟩
    rcases Nat.lt_or_ge i m with c | c
    · exact h1 i c
    · obtain rfl : i = m := by omega
      exact hm
  · refine Or.inr ⟨⟨i1, by omega, b1', c1⟩, ⟨i2, by omega, b2, c2⟩, ⟨i3, by omega, b3, c3⟩, ⟨i4, by omega, b4, c4⟩, fun i hi hb => ?_⟩
    rcases Nat.lt_or_ge i m with c | c
    · exact h5 i c hb
    · obtain rfl : i = m := by omega
      rw [hm] at hb; cases hb
theorem BInv.yes {bs : List Bool} {W H m : Nat} {l t r b : Int} (h : BInv bs W H m l t r b) (hm : bs.getD m false = true) (hx : m % W < W) (hy : m / W < H) {l' t' r' b' : Int}
    (el : l' = if ((m % W : Nat) : Int) < l then ((m % W : Nat) : Int) else l) (et : t' = if ((m / W : Nat) : Int) < t then ((m / W : Nat) : Int) else t)
    (er : r' = if r < ((m % W : Nat) : Int) then ((m % W : Nat) : Int) else r) (eb : b' = if b < ((m / W : Nat) : Int) then ((m / W : Nat) : Int) else b) : BInv bs W H (m + 1) l' t' r' b' := by
  obtain ⟨x, hx'⟩ : ∃ x, x = m % W := ⟨_, rfl⟩
  obtain ⟨y, hy'⟩ : ∃ y, y = m / W := ⟨_, rfl⟩
  rw [← hx'] at el er hx
  rw [← hy'] at et eb hy
  rcases h with ⟨h1, rfl, rfl, rfl, rfl⟩ | ⟨⟨i1, a1, b1', c1⟩, ⟨i2, a2, b2, c2⟩, ⟨i3, a3, b3, c3⟩, ⟨i4, a4, b4, c4⟩, h5⟩
  · rw [if_pos (by omega)] at el et er eb
    refine Or.inr ⟨⟨m, by omega, hm, by rw [← hx']; exact el⟩, ⟨m, by omega, hm, by rw [← hy']; exact et⟩, ⟨m, by omega, hm, by rw [← hx']; exact er⟩, ⟨m, by omega, hm, by rw [← hy']; exact eb⟩, fun i hi hb => ?_⟩
    rcases Nat.lt_or_ge i m with c | c
    · rw [h1 i c] at hb; cases hb
    · obtain rfl : i = m := by omega
      rw [← hx', ← hy']; omega
  · refine Or.inr ⟨?_, ?_, ?_, ?_, fun i hi hb => ?_⟩
    · by_cases c : (x : Int) < l
      · rw [if_pos c] at el; exact ⟨m, by omega, hm, by rw [← hx']; exact el⟩
      · rw [if_neg c] at el; exact ⟨i1, by omega, b1', by rw [el]; exact c1⟩
    · by_cases c : (y : Int) < t
      · rw [if_pos c] at et; exact ⟨m, by omega, hm, by rw [← hy']; exact et⟩
      · rw [if_neg c] at et; exact ⟨i2, by omega, b2, by rw [et]; exact c2⟩
    · by_cases c : r < (x : Int)
      · rw [if_pos c] at er; exact ⟨m, by omega, hm, by rw [← hx']; exact er⟩
      · rw [if_neg c] at er; exact ⟨i3, by omega, b3, by rw [er]; exact c3⟩
    · by_cases c : b < (y : Int)
      · rw [if_pos c] at eb; exact ⟨m, by omega, hm, by rw [← hy']; exact eb⟩
      · rw [if_neg c] at eb; exact ⟨i4, by omega, b4, by rw [eb]; exact c4⟩
    · have key : (l' ≤ l ∧ l' ≤ x) ∧ (t' ≤ t ∧ t' ≤ y) ∧ (r ≤ r' ∧ (x : Int) ≤ r') ∧ (b ≤ b' ∧ (y : Int) ≤ b') := by
        refine ⟨?_, ?_, ?_, ?_⟩
        · split at el <;> omega
        · split at et <;> omega
        · split at er <;> omega
        · split at eb <;> omega
      rcases Nat.lt_or_ge i m with c | c
      · have := h5 i c hb; omega
      · obtain rfl : i = m := by omega
        rw [← hx', ← hy']; omega
theorem BInv.bd {bs : List Bool} {W H m : Nat} {l t r b : Int} (h : BInv bs W H m l t r b) (hm : m ≤ W * H) : (0 ≤ l ∧ l ≤ W) ∧ (0 ≤ t ∧ t ≤ H) ∧ (-1 ≤ r ∧ r < W) ∧ (-1 ≤ b ∧ b < H) := by
  have hp : ∀ i, i < m → i % W < W ∧ i / W < H := fun i hi => by
    obtain ⟨a, b, _⟩ := place_parts (show i < W * H by omega)
    exact ⟨a, b⟩
  rcases h with ⟨h1, rfl, rfl, rfl, rfl⟩ | ⟨⟨i1, a1, b1', c1⟩, ⟨i2, a2, b2, c2⟩, ⟨i3, a3, b3, c3⟩, ⟨i4, a4, b4, c4⟩, h5⟩
  · omega
  · have p1 := (hp i1 a1).1; have p2 := (hp i2 a2).2; have p3 := (hp i3 a3).1; have p4 := (hp i4 a4).2
    clear h5 hp
    generalize i1 % W = x1 at c1 p1
    generalize i2 / W = y2 at c2 p2
    generalize i3 % W = x3 at c3 p3
    generalize i4 / W = y4 at c4 p4
    omega
theorem pix_place {bs : List Bool} {W H i : Nat} (hi : i < W * H) : pix bs W (i % W) (i / W) = bs.getD i false := by
  unfold pix; rw [(place_parts hi).2.2]
/-- What comes out. -/
theorem BInv.done {bs : List Bool} {W H : Nat} {l t r b : Int} (h : BInv bs W H (W * H) l t r b) :
    (r < 0 ∧ BoundsIs bs W H false 0 0 0 0) ∨ (¬ r < 0 ∧ BoundsIs bs W H true l t (r - l + 1) (b - t + 1)) := by
  rcases h with ⟨h1, rfl, rfl, rfl, rfl⟩ | ⟨⟨i1, a1, b1', c1⟩, ⟨i2, a2, b2, c2⟩, ⟨i3, a3, b3, c3⟩, ⟨i4, a4, b4, c4⟩, h5⟩
  · refine Or.inl ⟨by omega, Or.inl ⟨rfl, fun x hx => ?_, rfl, rfl, rfl, rfl⟩⟩
    rcases Nat.eq_zero_or_pos (colN bs W H x) with e | e
    · exact e
    · obtain ⟨y, hy, hp⟩ := (colN_pos bs W H x).1 e
      have := h1 (y * W + x) (place_lt hx hy)
      unfold pix at hp
      rw [this] at hp; cases hp
  · have q1 := place_parts a1; have q2 := place_parts a2; have q3 := place_parts a3; have q4 := place_parts a4
    have all : ∀ x y, x < W → y < H → pix bs W x y = true → l ≤ x ∧ (x : Int) ≤ r ∧ t ≤ y ∧ (y : Int) ≤ b := fun x y hx hy hp => by
      have := h5 (y * W + x) (place_lt hx hy) hp
      rwa [(at_parts y hx).1, (at_parts y hx).2] at this
    refine Or.inr ⟨by omega, Or.inr ⟨rfl, i1 % W, i3 % W, i2 / W, i4 / W, ⟨⟨q1.1, (colN_pos _ _ _ _).2 ⟨i1 / W, q1.2.1, by rw [pix_place a1]; exact b1'⟩, fun j hj => ?_⟩, q3.1, (colN_pos _ _ _ _).2 ⟨i3 / W, q3.2.1, by rw [pix_place a3]; exact b3⟩, fun j hj hj2 => ?_⟩,
      ⟨⟨q2.2.1, (rowN_pos _ _ _).2 ⟨i2 % W, q2.1, by rw [pix_place a2]; exact b2⟩, fun j hj => ?_⟩, q4.2.1, (rowN_pos _ _ _).2 ⟨i4 % W, q4.1, by rw [pix_place a4]; exact b4⟩, fun j hj hj2 => ?_⟩, c1, c2, by rw [c1, c3], by rw [c2, c4]⟩⟩
    · rcases Nat.eq_zero_or_pos (colN bs W H j) with e | e
      · exact e
      · obtain ⟨y, hy, hp⟩ := (colN_pos bs W H j).1 e
        have := all j y (by omega) hy hp; omega
    · rcases Nat.eq_zero_or_pos (colN bs W H j) with e | e
      · exact e
      · obtain ⟨y, hy, hp⟩ := (colN_pos bs W H j).1 e
        have := all j y (by omega) hy hp; omega
    · rcases Nat.eq_zero_or_pos (rowN bs W j) with e | e
      · exact e
      · obtain ⟨x, hx, hp⟩ := (rowN_pos bs W j).1 e
        have := all x j hx (by omega) hp; omega
    · rcases Nat.eq_zero_or_pos (rowN bs W j) with e | e
      · exact e
      · obtain ⟨x, hx, hp⟩ := (rowN_pos bs W j).1 e
        have := all x j hx (by omega) hp; omega

/-! ### values -/
end Go.Proofs.YtahfkahfaiidgaaGreatDoor


/-! The plain law of fonts: what is wrong with one; how letters lie in memory. -/
namespace Go.Proofs.YtahfkahfaiidgaaGreatDoor
open Go.RowKit

/-- A letter: its text, its page's size, where the page's pixels lie, and what they are. -/
structure Ltr where
  text : List UInt8
  W : Int
  H : Int
  A : Option Addr
  m : Nat
  c : Nat
  bs : List Bool
def Ltr.cells (l : Ltr) : List Value := [.string ⟨l.text.toArray⟩, .int .i64 l.W, .int .i64 l.H, .slice l.A l.m l.c]
def ltrCells (ls : List Ltr) : List Value := ls.flatMap Ltr.cells
theorem ltrCells_len (ls : List Ltr) : (ltrCells ls).length = ls.length * 4 := by
  unfold ltrCells
  induction ls with
  | nil => rfl
  | cons l ls ih =>
    rw [List.flatMap_cons, List.length_append, ih, List.length_cons]
    show 4 + ls.length * 4 = (ls.length + 1) * 4
    omega
theorem ltrCells_append (a b : List Ltr) : ltrCells (a ++ b) = ltrCells a ++ ltrCells b := by unfold ltrCells; rw [List.flatMap_append]
theorem ltrCells_at {ls : List Ltr} {i : Nat} {l : Ltr} (h : ls[i]? = some l) (j : Nat) (hj : j < 4) : (ltrCells ls)[i * 4 + j]? = l.cells[j]? := by
  induction ls generalizing i with
  | nil => simp at h
  | cons x ls ih =>
    unfold ltrCells
    rw [List.flatMap_cons]
    rcases i with _ | i
    · simp only [List.getElem?_cons_zero, Option.some.injEq] at h
      subst h
      rw [List.getElem?_append_left (by show 0 * 4 + j < 4; omega)]
      simp
    · rw [List.getElem?_append_right (by show 4 ≤ (i + 1) * 4 + j; omega)]
      have e : (i + 1) * 4 + j - x.cells.length = i * 4 + j := by
        show (i + 1) * 4 + j - 4 = i * 4 + j
        omega
      rw [e]
      exact ih (by simpa using h)
/-- The letters lie there. -/
def LtrsAt (w : World) (L : Option Addr) (ls : List Ltr) : Prop := Reads w 4 L ls.length (ltrCells ls) ∧ ∀ l ∈ ls, Reads w 1 l.A l.m (l.bs.map .bool) ∧ l.text.length ≤ 9223372036854775807
theorem LtrsAt.bl {w w' : World} {L : Option Addr} {ls : List Ltr} (h : LtrsAt w L ls) (hb : Bl w w') : LtrsAt w' L ls := ⟨h.1.bl hb, fun l hl => ⟨(h.2 l hl).1.bl hb, (h.2 l hl).2⟩⟩
theorem LtrsAt.at_ {w : World} {L : Option Addr} {ls : List Ltr} {i : Nat} {l : Ltr} (h : LtrsAt w L ls) (hi : ls[i]? = some l) : ∃ ad, L = some ad ∧ w.cell? (ad.add (i * 4)) = some (.string ⟨l.text.toArray⟩) ∧ w.cell? ⟨(ad.add (i * 4)).block, (ad.add (i * 4)).off + 1, none⟩ = some (.int .i64 l.W) ∧
    w.cell? ⟨(ad.add (i * 4)).block, (ad.add (i * 4)).off + 2, none⟩ = some (.int .i64 l.H) ∧ w.cell? ⟨(ad.add (i * 4)).block, (ad.add (i * 4)).off + 3, none⟩ = some (.slice l.A l.m l.c) := by
  have hlt : i < ls.length := (List.getElem?_eq_some_iff.1 hi).1
  obtain ⟨ad, e, hc⟩ := h.1.2 (by omega)
  have key : ∀ j v, j < 4 → l.cells[j]? = some v → w.cell? ((ad.add (i * 4)).add j) = some v := fun j v hj hv => by
    rw [add_of_add]
    exact hc _ _ (by rw [ltrCells_at hi j hj]; exact hv)
  have k0 := key 0 _ (by omega) rfl
  have k1 := key 1 _ (by omega) rfl
  have k2 := key 2 _ (by omega) rfl
  have k3 := key 3 _ (by omega) rfl
  rw [Addr.add_zero'] at k0
  rw [Addr.add_succ'] at k1 k2 k3
  exact ⟨ad, e, k0, k1, k2, k3⟩
theorem LtrsAt.take {w : World} {L : Option Addr} {ls : List Ltr} (h : LtrsAt w L ls) (i : Nat) (hi : i ≤ ls.length) : LtrsAt w L (ls.take i) := by
  have hl : (ls.take i).length = i := by simp; omega
  refine ⟨⟨ltrCells_len _, fun hn => ?_⟩, fun l hm => h.2 l (List.mem_of_mem_take hm)⟩
  obtain ⟨ad, e, hc⟩ := h.1.2 (by omega)
  refine ⟨ad, e, fun j u hj => hc j u ?_⟩
  have e2 : ltrCells ls = ltrCells (ls.take i) ++ ltrCells (ls.drop i) := by rw [← ltrCells_append, List.take_append_drop]
  rw [e2, List.getElem?_append_left (List.getElem?_eq_some_iff.1 hj).1]
  exact hj

/-! ### what is wrong -/
end Go.Proofs.YtahfkahfaiidgaaGreatDoor


/-! page.counted, Rows, Columns, Histogram. -/
namespace Go.Proofs.YtahfkahfaiidgaaGreatDoor
open Go.RowKit

/-- A table of numbers if the error is 0, nothing else. -/
def TabRes (w : World) (err : Int) (N : Nat) (f : Nat → Int) (P : Option Addr) (m : Nat) : Prop :=
  (err = 0 → m = N ∧ Reads w 1 P m ((tabL m f).map (.int .i64))) ∧ (err ≠ 0 → m = 0 ∧ P = none)
theorem TabRes.bl {w w' : World} {err : Int} {N : Nat} {f : Nat → Int} {P : Option Addr} {m : Nat} (h : TabRes w err N f P m) (hb : Bl w w') : TabRes w' err N f P m :=
  ⟨fun e => ⟨(h.1 e).1, (h.1 e).2.bl hb⟩, h.2⟩
/-! ### Histogram -/
end Go.Proofs.YtahfkahfaiidgaaGreatDoor


/-! What holds of a font whose error is 0. -/
namespace Go.Proofs.YtahfkahfaiidgaaGreatDoor
open Go.RowKit

theorem firstNZ_zero {es : List Int} (h : firstNZ es = 0) : ∀ e ∈ es, e = 0 := by
  induction es with
  | nil => intro e he; cases he
  | cons x es ih =>
    have h' : (if x = 0 then firstNZ es else x) = 0 := h
    by_cases h0 : x = 0
    · rw [if_pos h0] at h'
      intro e he
      rcases List.mem_cons.1 he with rfl | he
      · exact h0
      · exact ih h' e he
    · rw [if_neg h0] at h'
      exact absurd h' h0
end Go.Proofs.YtahfkahfaiidgaaGreatDoor


/-! boxes in pages, Cut and Ink. -/
namespace Go.Proofs.YtahfkahfaiidgaaGreatDoor
open Go.RowKit

/-! ### boxes -/
def inPageB (X Y BW BH W H : Int) : Bool := decide (0 ≤ X ∧ X < W ∧ 0 ≤ Y ∧ Y < H ∧ 1 ≤ BW ∧ BW ≤ W - X ∧ 1 ≤ BH ∧ BH ≤ H - Y)
def inPageW (X Y BW BH W H : Int) : Bool := inB X 0 (wrap64 (W - 1)) && (inB Y 0 (wrap64 (H - 1)) && (inB BW 1 (wrap64 (W - X)) && inB BH 1 (wrap64 (H - Y))))
theorem inPageW_eq {X Y BW BH W H : Int} (hW : 1 ≤ W ∧ W ≤ 4000) (hH : 1 ≤ H ∧ H ≤ 4000) : inPageW X Y BW BH W H = inPageB X Y BW BH W H := by
  have e1 : wrap64 (W - 1) = W - 1 := by unfold wrap64; omega
  have e2 : wrap64 (H - 1) = H - 1 := by unfold wrap64; omega
  rw [Bool.eq_iff_iff]
  unfold inPageW inPageB
  simp only [e1, e2, Bool.and_eq_true, inB_true, decide_eq_true_eq]
  constructor
  · rintro ⟨h1, h2, h3, h4⟩
    have e3 : wrap64 (W - X) = W - X := by unfold wrap64; omega
    have e4 : wrap64 (H - Y) = H - Y := by unfold wrap64; omega
    rw [e3] at h3
    rw [e4] at h4
    omega
  · rintro ⟨h1, h2, h3, h4, h5⟩
    have e3 : wrap64 (W - X) = W - X := by unfold wrap64; omega
    have e4 : wrap64 (H - Y) = H - Y := by unfold wrap64; omega
    rw [e3, e4]
    omega

set_option maxHeartbeats 1000000 in
theorem inPageOf_any (X Y BW BH W H : Int) (w : World) :
    Calls Tryz.prog 36 #[.agg #[.int .i64 X, .int .i64 Y, .int .i64 BW, .int .i64 BH], .int .i64 W, .int .i64 H] w fun e w' => e = .returned (.bool (inPageW X Y BW BH W H)) ∧ Bl w w' := by
  unfold inPageW
  cases h1 : inB X 0 (wrap64 (W - 1))
  case false =>
    go_enter Tryz.func36, Tryz.ntmps36
    go_wp2_with (go_at_call 33; refine (in_any _ _ _ _).mono ?_; rintro e w' ⟨rfl, rfl⟩)
    go_ret
    exact ⟨rfl, (Bl.refl _).alloc _⟩
  case true =>
    cases h2 : inB Y 0 (wrap64 (H - 1))
    case false =>
      go_enter Tryz.func36, Tryz.ntmps36
      go_wp2_with (go_at_call 33; refine (in_any _ _ _ _).mono ?_; rintro e w' ⟨rfl, rfl⟩)
      go_ret
      exact ⟨rfl, (Bl.refl _).alloc _⟩
    case true =>
      cases h3 : inB BW 1 (wrap64 (W - X))
      case false =>
        go_enter Tryz.func36, Tryz.ntmps36
        go_wp2_with (go_at_call 33; refine (in_any _ _ _ _).mono ?_; rintro e w' ⟨rfl, rfl⟩)
        go_ret
        exact ⟨rfl, (Bl.refl _).alloc _⟩
      case true =>
        go_enter Tryz.func36, Tryz.ntmps36
        go_wp2_with (go_at_call 33; refine (in_any _ _ _ _).mono ?_; rintro e w' ⟨rfl, rfl⟩)
        go_ret
        exact ⟨by simp, (Bl.refl _).alloc _⟩

set_option maxRecDepth 100000 in
set_option maxHeartbeats 2000000 in
theorem inPage_any (X Y BW BH : Int) (W H : Nat) (w : World) (hW : 1 ≤ W ∧ W ≤ 4000) (hH : 1 ≤ H ∧ H ≤ 4000) :
    Calls Tryz.prog 97 #[.agg #[.int .i64 X, .int .i64 Y, .int .i64 BW, .int .i64 BH], .int .i64 W, .int .i64 H] w fun e w' => e = .returned (.int .i64 (whenI (!inPageB X Y BW BH W H) 13)) ∧ Bl w w' := by
  by_cases hall : 0 ≤ X ∧ X < W ∧ 0 ≤ Y ∧ Y < H ∧ 1 ≤ BW ∧ BW ≤ W - X ∧ 1 ≤ BH ∧ BH ≤ H - Y
  · have e : inPageB X Y BW BH W H = true := by unfold inPageB; exact decide_eq_true hall
    rw [e]
    clear e
    obtain ⟨c1, c2, c3, c4, c5, c6, c7, c8⟩ := hall
    go_enter Tryz.func97, Tryz.ntmps97
    go_wp2_with fail
    go_ret
    exact ⟨rfl, (Bl.refl _).alloc _⟩
  · have e : inPageB X Y BW BH W H = false := by unfold inPageB; exact decide_eq_false hall
    rw [e]
    clear e
    rcases (show BW < 1 ∨ (¬ BW < 1 ∧ BH < 1) ∨ (¬ BW < 1 ∧ ¬ BH < 1 ∧ X < 0) ∨ (¬ BW < 1 ∧ ¬ BH < 1 ∧ ¬ X < 0 ∧ Y < 0) ∨ (¬ BW < 1 ∧ ¬ BH < 1 ∧ ¬ X < 0 ∧ ¬ Y < 0 ∧ (W : Int) ≤ X) ∨ (¬ BW < 1 ∧ ¬ BH < 1 ∧ ¬ X < 0 ∧ ¬ Y < 0 ∧ ¬ (W : Int) ≤ X ∧ (H : Int) ≤ Y) ∨
      (¬ BW < 1 ∧ ¬ BH < 1 ∧ ¬ X < 0 ∧ ¬ Y < 0 ∧ ¬ (W : Int) ≤ X ∧ ¬ (H : Int) ≤ Y ∧ (W : Int) - X < BW) ∨ (¬ BW < 1 ∧ ¬ BH < 1 ∧ ¬ X < 0 ∧ ¬ Y < 0 ∧ ¬ (W : Int) ≤ X ∧ ¬ (H : Int) ≤ Y ∧ ¬ (W : Int) - X < BW ∧ (H : Int) - Y < BH) by omega) with
      c1 | ⟨c1, c2⟩ | ⟨c1, c2, c3⟩ | ⟨c1, c2, c3, c4⟩ | ⟨c1, c2, c3, c4, c5⟩ | ⟨c1, c2, c3, c4, c5, c6⟩ | ⟨c1, c2, c3, c4, c5, c6, c7⟩ | ⟨c1, c2, c3, c4, c5, c6, c7, c8⟩
    all_goals
      clear hall
      go_enter Tryz.func97, Tryz.ntmps97
      go_wp2_with fail
      go_ret
      exact ⟨rfl, (Bl.refl _).alloc _⟩

/-! ### Cut -/
def cutF (bs : List Bool) (W X Y x y : Nat) : Bool := pix bs W (X + x) (Y + y)
/-! ### Ink -/
end Go.Proofs.YtahfkahfaiidgaaGreatDoor


/-! Ints in order. -/
namespace Go.Proofs.YtahfkahfaiidgaaGreatDoor

def sortI (l : List Int) : List Int := l.mergeSort fun x y => decide (x ≤ y)
theorem sortI_len (l : List Int) : (sortI l).length = l.length := List.length_mergeSort _
theorem sortI_mem {l : List Int} {x : Int} : x ∈ sortI l ↔ x ∈ l := List.mem_mergeSort
end Go.Proofs.YtahfkahfaiidgaaGreatDoor
