/- glyph.distance. -/
import Derived.Test.YtjelhdpcaileiaaDoorU0

namespace Go.Proofs.YtjelhdpcaileiaaDoor
open Go.RowKit

theorem eq_of_cells {α : Type} (xs ys : List α) (hl : xs.length = ys.length) (h : ∀ j, j < xs.length → xs[j]? = ys[j]?) : xs = ys := by
  apply List.ext_getElem?
  intro i
  rcases Nat.lt_or_ge i xs.length with hi | hi
  · exact h i hi
  · rw [List.getElem?_eq_none hi, List.getElem?_eq_none (by omega)]

def smallB (W H : Int) : Bool := decide (0 ≤ W ∧ W ≤ 200 ∧ 0 ≤ H ∧ H ≤ 200 ∧ W * H ≤ 10000)

set_option maxHeartbeats 400000 in
theorem small_any (W H : Int) (w : World) : Calls Tryd.prog 16 #[.int .i64 W, .int .i64 H] w fun e w' => e = .returned (.bool (smallB W H)) ∧ w = w' := by
  cases h1 : inB W 0 200 <;> cases h2 : inB H 0 200
  case true.true =>
    have a := inB_true.1 h1
    have b := inB_true.1 h2
    have m1 := Int.mul_nonneg a.1 b.1
    have m2 := Int.mul_le_mul a.2 b.2 b.1 (by omega)
    have hs : smallB W H = decide (W * H ≤ 10000) := by unfold smallB; simp [a, b]
    have Hs := Lib.hid hs; clear hs
    go_enter Tryd.func16, Tryd.ntmps16
    go_wp2_with (go_at_call 14; refine (in_any _ _ _ _).mono ?_; rintro e w' ⟨rfl, rfl⟩)
    go_ret
    exact ⟨ret_bool Hs.out.symm, rfl⟩
  all_goals
    have hs : smallB W H = false := by
      unfold smallB
      simp only [decide_eq_false_iff_not]
      intro h
      first
        | (have := inB_false.1 h1; omega)
        | (have := inB_false.1 h2; omega)
    have Hs := Lib.hid hs; clear hs
    go_enter Tryd.func16, Tryd.ntmps16
    go_wp2_with (go_at_call 14; refine (in_any _ _ _ _).mono ?_; rintro e w' ⟨rfl, rfl⟩)
    go_ret
    exact ⟨ret_bool Hs.out.symm, rfl⟩

/-! ### slices.Equal at bool -/
set_option maxRecDepth 100000 in
set_option maxHeartbeats 400000 in
theorem equalBits_any (A B : Option Addr) (c d : Nat) (xs ys : List Bool) (w : World) (hx : Reads w 1 A xs.length (xs.map Value.bool)) (hy : Reads w 1 B ys.length (ys.map Value.bool)) (hl : xs.length ≤ 1099511627776) :
    Calls Tryd.prog 154 #[.slice A xs.length c, .slice B ys.length d] w fun e w' => e = .returned (.bool (decide (xs = ys))) ∧ Bl w w' := by
  by_cases hlen : xs.length = ys.length
  · have hne : ((xs.length : Int) != (ys.length : Int)) = false := by simp [hlen]
    have hne2 : (xs.length != ys.length) = false := by simp [hlen]
    have Hlen := Lib.hid hlen; clear hlen
    go_enter Tryd.func154, Tryd.ntmps154
    go_wp2
    go_loopw [13] (fun v wr => ∃ k : Nat, k ≤ xs.length ∧ v = .int .i64 k ∧ Hid (∀ j, j < k → xs[j]? = ys[j]?) ∧ Bl w wr) (fun v _ => xs.length - (intOf v).toNat)
    case atStart => exact ⟨0, Nat.zero_le _, rfl, fun j hj => absurd hj (by omega), Bl.refl _⟩
    case round =>
      obtain ⟨k, hk, rfl, hz, hbr⟩ := hrel
      by_cases hlt : k < xs.length
      · have hlt' : k < ys.length := by have := Hlen.out; omega
        obtain ⟨ad, u, rfl, hu, hc⟩ := (hx.bl hbr).at_ hlt
        obtain ⟨bd, t, rfl, ht, hd⟩ := (hy.bl hbr).at_ hlt'
        have hu' : u = Value.bool xs[k] := by simpa [hlt] using hu.symm
        have ht' : t = Value.bool ys[k] := by simpa [hlt'] using ht.symm
        subst hu' ht'
        have Hx := Lib.hid hx; have Hy := Lib.hid hy
        clear hx hy hu ht
        have i1 : (k : Int) < (xs.length : Int) := by omega
        have i2 : (k : Int) < (ys.length : Int) := by omega
        by_cases h0 : xs[k] = ys[k]
        · have hb : (xs[k] != ys[k]) = false := by simp [h0]
          have hzz : Hid (∀ j, j < k + 1 → xs[j]? = ys[j]?) := fun j hj => by
            rcases Nat.lt_or_ge j k with h | h
            · exact hz.out j h
            · obtain rfl : j = k := by omega
              simp [hlt, hlt', h0]
          generalize xs[k] = xk at *
          generalize ys[k] = yk at *
          subst h0
          clear hb
          cases xk
          all_goals
            go_wp2
            refine wp_region_flow [(true, 0), (true, 1), (true, 2), (true, 3), (true, 4), (true, 5), (true, 6), (true, 7), (true, 8)] (fun _ => false) (by kernel_rfl) (by kernel_rfl) (by kernel_rfl) (by kernel_rfl) ?_
            iterate 2
              apply Flow.mv _ rfl
              · intro K' hK'
                simp only [Act.put, Act.eval, List.setIfInBounds_toArray, List.set_cons_zero, List.set_cons_succ, arr_getD, List.getD_cons_zero, List.getD_cons_succ]
                exact hK'
            iterate 1
              apply Flow.calm2 _ _ rfl rfl
              · intro w' hb' K' hK'
                obtain ⟨hc', hf'⟩ := hb'.rule
                go_simp
                try go_ints
                exact hK'
              · intro K' hK'
                simp only [Act.put, List.setIfInBounds_toArray, List.set_cons_zero, List.set_cons_succ]
                exact hK'
            iterate 1
              apply Flow.calm2 _ _ rfl rfl
              · intro w' hb' K' hK'
                obtain ⟨hc', hf'⟩ := hb'.rule
                go_simp
                try go_ints
                exact hK'
              · intro K' hK'
                simp only [Act.put, List.setIfInBounds_toArray, List.set_cons_zero, List.set_cons_succ]
                exact hK'
            iterate 2
              apply Flow.mv _ rfl
              · intro K' hK'
                simp only [Act.put, Act.eval, List.setIfInBounds_toArray, List.set_cons_zero, List.set_cons_succ, arr_getD, List.getD_cons_zero, List.getD_cons_succ]
                exact hK'
            iterate 1
              apply Flow.calm2 _ _ rfl rfl
              · intro w' hb' K' hK'
                obtain ⟨hc', hf'⟩ := hb'.rule
                go_simp
                try go_ints
                exact hK'
              · intro K' hK'
                simp only [Act.put, List.setIfInBounds_toArray, List.set_cons_zero, List.set_cons_succ]
                exact hK'
            iterate 1
              apply Flow.calm2 _ _ rfl rfl
              · intro w' hb' K' hK'
                obtain ⟨hc', hf'⟩ := hb'.rule
                go_simp
                try go_ints
                exact hK'
              · intro K' hK'
                simp only [Act.put, List.setIfInBounds_toArray, List.set_cons_zero, List.set_cons_succ]
                exact hK'
            iterate 1
              apply Flow.calm2 _ _ rfl rfl
              · intro w' hb' K' hK'
                obtain ⟨hc', hf'⟩ := hb'.rule
                go_simp
                try go_ints
                exact hK'
              · intro K' hK'
                simp only [Act.put, List.setIfInBounds_toArray, List.set_cons_zero, List.set_cons_succ]
                exact hK'
            refine Flow.done ?_
            go_wp2
            exact ⟨⟨k + 1, hlt, by go_num, hzz, hbr.drew⟩, by simp [intOf]; omega⟩
        · have hb : (xs[k] != ys[k]) = true := by simp [h0]
          have hf : ¬ xs = ys := fun e => h0 (by subst e; rfl)
          have H0 := Lib.hid hf; clear hf
          generalize xs[k] = xk at *
          generalize ys[k] = yk at *
          clear hb
          cases xk <;> cases yk <;> first | (exact absurd rfl h0) | clear h0
          all_goals
            go_wp2
            refine wp_region_flow [(true, 0), (true, 1), (true, 2), (true, 3), (true, 4), (true, 5), (true, 6), (true, 7), (true, 8)] (fun _ => false) (by kernel_rfl) (by kernel_rfl) (by kernel_rfl) (by kernel_rfl) ?_
            iterate 2
              apply Flow.mv _ rfl
              · intro K' hK'
                simp only [Act.put, Act.eval, List.setIfInBounds_toArray, List.set_cons_zero, List.set_cons_succ, arr_getD, List.getD_cons_zero, List.getD_cons_succ]
                exact hK'
            iterate 1
              apply Flow.calm2 _ _ rfl rfl
              · intro w' hb' K' hK'
                obtain ⟨hc', hf'⟩ := hb'.rule
                go_simp
                try go_ints
                exact hK'
              · intro K' hK'
                simp only [Act.put, List.setIfInBounds_toArray, List.set_cons_zero, List.set_cons_succ]
                exact hK'
            iterate 1
              apply Flow.calm2 _ _ rfl rfl
              · intro w' hb' K' hK'
                obtain ⟨hc', hf'⟩ := hb'.rule
                go_simp
                try go_ints
                exact hK'
              · intro K' hK'
                simp only [Act.put, List.setIfInBounds_toArray, List.set_cons_zero, List.set_cons_succ]
                exact hK'
            iterate 2
              apply Flow.mv _ rfl
              · intro K' hK'
                simp only [Act.put, Act.eval, List.setIfInBounds_toArray, List.set_cons_zero, List.set_cons_succ, arr_getD, List.getD_cons_zero, List.getD_cons_succ]
                exact hK'
            iterate 1
              apply Flow.calm2 _ _ rfl rfl
              · intro w' hb' K' hK'
                obtain ⟨hc', hf'⟩ := hb'.rule
                go_simp
                try go_ints
                exact hK'
              · intro K' hK'
                simp only [Act.put, List.setIfInBounds_toArray, List.set_cons_zero, List.set_cons_succ]
                exact hK'
            iterate 1
              apply Flow.calm2 _ _ rfl rfl
              · intro w' hb' K' hK'
                obtain ⟨hc', hf'⟩ := hb'.rule
                go_simp
                try go_ints
                exact hK'
              · intro K' hK'
                simp only [Act.put, List.setIfInBounds_toArray, List.set_cons_zero, List.set_cons_succ]
                exact hK'
            iterate 1
              apply Flow.calm2 _ _ rfl rfl
              · intro w' hb' K' hK'
                obtain ⟨hc', hf'⟩ := hb'.rule
                go_simp
                try go_ints
                exact hK'
              · intro K' hK'
                simp only [Act.put, List.setIfInBounds_toArray, List.set_cons_zero, List.set_cons_succ]
                exact hK'
            refine Flow.done ?_
            go_wp2
            go_ret
            exact ⟨ret_bool (by simp [H0.out]), hbr.drew⟩
      · have hf : xs = ys := eq_of_cells xs ys Hlen.out (fun j hj => hz.out j (by omega))
        have Hf := Lib.hid hf; clear hf
        have Hx := Lib.hid hx; have Hy := Lib.hid hy
        clear hx hy
        go_wp2
        go_ret
        exact ⟨ret_bool (by simp [Hf.out]), hbr⟩
  · have hne : ((xs.length : Int) != (ys.length : Int)) = true := by simp; omega
    have hne2 : (xs.length != ys.length) = true := by simp; omega
    have hf : ¬ xs = ys := fun e => hlen (by subst e; rfl)
    have Hf := Lib.hid hf
    clear hlen hx hy hf
    go_enter Tryd.func154, Tryd.ntmps154
    go_wp2
    go_ret
    exact ⟨ret_bool (by simp [Hf.out]), Bl.refl _⟩

/-! The same page. -/
set_option maxRecDepth 100000 in
set_option maxHeartbeats 400000 in
theorem sameBits_any (W H : Nat) (v u : Value) (xs : List Bool) (w : World) (hv : IsPage w v W H (xs.map Value.bool)) (hu : IsPage w u W H (xs.map Value.bool)) (hl : W * H ≤ 1099511627776) :
    Calls Tryd.prog 77 #[v, u] w fun e w' => e = .returned (.bool true) ∧ Bl w w' := by
  obtain ⟨A, c, rfl, hA⟩ := hv
  obtain ⟨B, d, rfl, hB⟩ := hu
  have hn : xs.length = W * H := by have := hA.1; simpa using this
  have heq := fun (w1 : World) (hb : Bl w w1) => equalBits_any A B c d xs xs w1 (by rw [hn]; exact hA.bl hb) (by rw [hn]; exact hB.bl hb) (by omega)
  rw [hn] at heq
  have Heq := Lib.hid heq; clear heq
  have Hn := Lib.hid hn
  clear hA hB hn
  go_enter Tryd.func77, Tryd.ntmps77
  go_wp2_with fail
  refine (Heq.out _ (((Bl.refl _).alloc _).alloc _)).mono ?_
  rintro e w1 ⟨rfl, hb1⟩
  go_wp2_with fail
  go_ret
  exact ⟨ret_bool (by simp), (((Bl.refl _).alloc _).alloc _).trans hb1⟩

/-! Nothing at all. -/
set_option maxRecDepth 100000 in
set_option maxHeartbeats 400000 in
theorem noBits_zero (w : World) : Calls Tryd.prog 76 #[.agg #[.int .i64 0, .int .i64 0, .slice none 0 0]] w fun e w' => e = .returned (.bool true) ∧ Bl w w' := by
  go_enter Tryd.func76, Tryd.ntmps76
  go_wp2
  go_ret
  exact ⟨rfl, (Bl.refl _).alloc _⟩

/-! ### slices.Equal at byte -/
/-! The same page. -/
/-! Nothing at all. -/
/-! ### bitsIs -/
/-- A function value that makes a page. -/
def MakesPage (P : Program) (k : FuncId) (cap : Array Value) (w : World) (W H : Nat) (cells : List Value) : Prop :=
  (∀ args w, (callFunc k args).run P w = .ok (.enter k args) w) ∧ ∀ wx, Bl w wx → Calls P k cap wx fun e w' => ∃ v, e = .returned v ∧ IsPage w' v W H cells ∧ Bl wx w'

set_option maxRecDepth 100000 in
set_option maxHeartbeats 400000 in
theorem bitsIs_bad (want : Int) (f : Value) (w : World) (hw : want ≠ 0) :
    Calls Tryd.prog 17 #[.agg #[.int .i64 0, .int .i64 0, .slice none 0 0], .int .i64 want, .int .i64 want, f] w fun e w' => e = .returned (.bool true) ∧ Bl w w' := by
  have hq : (want != 0) = true := by simp [hw]
  clear hw
  go_enter Tryd.func17, Tryd.ntmps17
  go_wp2_with (go_at_call 76; refine (noBits_zero _).mono ?_; rintro e w1 ⟨rfl, hb1⟩)
  go_ret
  exact ⟨rfl, ((Bl.refl _).alloc _).trans hb1⟩

set_option maxRecDepth 100000 in
set_option maxHeartbeats 400000 in
theorem bitsIs_ok (W H : Nat) (v : Value) (xs : List Bool) (k : FuncId) (cap : Array Value) (w : World) (hv : IsPage w v W H (xs.map .bool)) (hk : MakesPage Tryd.prog k cap w W H (xs.map .bool)) (hl : W * H ≤ 1099511627776) :
    Calls Tryd.prog 17 #[v, .int .i64 0, .int .i64 0, .func (.func k) #[] cap] w fun e w' => e = .returned (.bool true) ∧ Bl w w' := by
  have hent := hk.1
  obtain ⟨A, c, rfl, hA⟩ := id hv
  have Hv := Lib.hid hv
  clear hv hA
  go_enter Tryd.func17, Tryd.ntmps17
  go_wp2_with fail
  refine wp_region_flow [(true, 0), (true, 1), (true, 2), (true, 3), (true, 4), (false, 5), (false, 6), (true, 7), (true, 8)] (fun _ => false) (by kernel_rfl) (by kernel_rfl) (by kernel_rfl) (by kernel_rfl) ?_
  iterate 1
    apply Flow.mv _ rfl
    · intro K' hK'
      simp only [Act.put, Act.eval, List.setIfInBounds_toArray, List.set_cons_zero, List.set_cons_succ, arr_getD, List.getD_cons_zero, List.getD_cons_succ]
      exact hK'
  iterate 1
    apply Flow.calm2 _ _ rfl rfl
    · intro w' hb' K' hK'
      obtain ⟨hc', hf'⟩ := hb'.rule
      go_simp
      try go_ints
      exact hK'
    · intro K' hK'
      simp only [Act.put, List.setIfInBounds_toArray, List.set_cons_zero, List.set_cons_succ]
      exact hK'
  iterate 1
    apply Flow.mv _ rfl
    · intro K' hK'
      simp only [Act.put, Act.eval, List.setIfInBounds_toArray, List.set_cons_zero, List.set_cons_succ, arr_getD, List.getD_cons_zero, List.getD_cons_succ]
      exact hK'
  first
    | (apply Flow.pass rfl (by rfl))
    | (apply Flow.calmG _ rfl (by rfl)
       · intro w' hb'
         obtain ⟨hc', hf'⟩ := hb'.rule
         go_simp
         all_goals (try rfl))
  simp only [Act.put, List.setIfInBounds_toArray, List.set_cons_zero, List.set_cons_succ]
  try go_ints
  first
    | (apply Flow.pass rfl (by rfl))
    | (apply Flow.calmG _ rfl (by rfl)
       · intro w' hb'
         obtain ⟨hc', hf'⟩ := hb'.rule
         go_simp
         all_goals (try rfl))
  simp only [Act.put, List.setIfInBounds_toArray, List.set_cons_zero, List.set_cons_succ]
  try go_ints
  -- a guarded mover
  apply Flow.move rfl
  go_wp2_with fail
  have hk1 := hk.2 _ (((Bl.refl w).alloc (.cells #[.int .i64 W, .int .i64 H, .slice A (W * H) c] 27)).drew)
  refine hk1.mono ?_
  rintro e w1 ⟨u, rfl, hu, HB1⟩
  go_wp2_with fail
  refine ⟨fun _ => (by first | exact HB1 | exact Bl.refl _), ?_⟩
  -- a guarded mover
  apply Flow.move rfl
  go_wp2_with fail
  have hb2 : Bl w w1 := (((Bl.refl w).alloc _).drew).trans HB1
  refine (sameBits_any W H _ u xs w1 (Hv.out.bl hb2) hu hl).mono ?_
  rintro e w2 ⟨rfl, HB2⟩
  go_wp2_with fail
  refine ⟨fun _ => (by first | exact HB2 | exact Bl.refl _), ?_⟩
  iterate 1
    apply Flow.calm2 _ _ rfl rfl
    · intro w' hb' K' hK'
      obtain ⟨hc', hf'⟩ := hb'.rule
      go_simp
      try go_ints
      exact hK'
    · intro K' hK'
      simp only [Act.put, List.setIfInBounds_toArray, List.set_cons_zero, List.set_cons_succ]
      exact hK'
  iterate 1
    apply Flow.asg _ rfl
    · intro K' hK'
      simp only [Act.put, Act.eval, List.setIfInBounds_toArray, List.set_cons_zero, List.set_cons_succ, arr_getD, List.getD_cons_zero, List.getD_cons_succ]
      exact hK'
  refine Flow.done ?_
  go_wp2_with fail
  go_ret
  exact ⟨rfl, hb2.trans HB2⟩

end Go.Proofs.YtjelhdpcaileiaaDoor


/-! The sum of a box, the square around a place, the means of a page. -/
namespace Go.Proofs.YtjelhdpcaileiaaDoor
open Go.RowKit

/-! ### plain -/
/-- The sum of the values of a box: rows y to y + h, columns x to x + l. -/
def boxSum (v : Nat → Int) (W x y l h : Nat) : Int := sat v W (y + h) (x + l) - sat v W y (x + l) - sat v W (y + h) x + sat v W y x

theorem rowSum_mono {v : Nat → Int} (hv : ∀ i, 0 ≤ v i ∧ v i ≤ 255) (W y x : Nat) : ∀ l, rowSum v W y x ≤ rowSum v W y (x + l)
  | 0 => Int.le_refl _
  | l + 1 => Int.le_trans (rowSum_mono hv W y x l) (by rw [← Nat.add_assoc]; simp only [rowSum]; have := hv (y * W + (x + l)); omega)

/-! ### (*Sums).In -/
/-! ### (*Sums).Around -/
/-- From which place on, how far, the square around a place goes. -/
def from_ (x r : Nat) : Nat := x - r
def long_ (x r W : Nat) : Nat := min (x + r + 1) W - (x - r)
theorem long_pos {x r W : Nat} (hx : x < W) : 1 ≤ long_ x r W ∧ from_ x r + long_ x r W ≤ W := by unfold long_ from_; omega

end Go.Proofs.YtjelhdpcaileiaaDoor


/-! page.Means; slices.Equal of numbers; blank pages. -/
namespace Go.Proofs.YtjelhdpcaileiaaDoor
open Go.RowKit

/-- A byte list reads as bytes. -/
def Bytes (zs : List Int) : Prop := ∀ z ∈ zs, 0 ≤ z ∧ z ≤ 255
def valOf (zs : List Int) (i : Nat) : Int := zs.getD i 0
theorem Bytes.at {zs : List Int} (h : Bytes zs) (i : Nat) : 0 ≤ valOf zs i ∧ valOf zs i ≤ 255 := by
  unfold valOf
  rcases Nat.lt_or_ge i zs.length with hl | hl
  · have := h zs[i] (List.getElem_mem hl)
    simpa [List.getD, hl] using this
  · simp [List.getD, List.getElem?_eq_none hl]

def meansErr (W H : Int) (n : Nat) (r : Int) : Int := if pageErr W H n = 0 then (if inB r 0 200 then 0 else 3) else pageErr W H n
theorem meansErr_first (W H : Int) (n : Nat) (r : Int) : firstNZ [pageErr W H n, whenI (!inB r 0 200) 3] = meansErr W H n r := by
  unfold meansErr
  by_cases h : pageErr W H n = 0
  · rw [if_pos h, h]
    cases inB r 0 200 <;> simp [firstNZ, whenI]
  · rw [if_neg h]; simp [firstNZ, h]

theorem boxSum_succ (v : Nat → Int) (W x y l h : Nat) : boxSum v W x y l (h + 1) = boxSum v W x y l h + (rowSum v W (y + h) (x + l) - rowSum v W (y + h) x) := by
  unfold boxSum
  rw [← Nat.add_assoc]
  simp only [sat]
  omega
theorem rowDiff_bd {v : Nat → Int} (hv : ∀ i, 0 ≤ v i ∧ v i ≤ 255) (W y x : Nat) : ∀ l, 0 ≤ rowSum v W y (x + l) - rowSum v W y x ∧ rowSum v W y (x + l) - rowSum v W y x ≤ 255 * l
  | 0 => by simp
  | l + 1 => by
    have := rowDiff_bd hv W y x l
    have := hv (y * W + (x + l))
    rw [← Nat.add_assoc]
    simp only [rowSum]
    omega
theorem boxSum_bd {v : Nat → Int} (hv : ∀ i, 0 ≤ v i ∧ v i ≤ 255) (W x y l : Nat) (hl : l ≤ 4000) : ∀ h, 0 ≤ boxSum v W x y l h ∧ boxSum v W x y l h ≤ 1020000 * h
  | 0 => by simp [boxSum]; omega
  | h + 1 => by
    have := boxSum_bd hv W x y l hl h
    have := rowDiff_bd hv W (y + h) x l
    rw [boxSum_succ]
    omega

/-- The mean around place number i. -/
def meanAt (zs : List Int) (W H r i : Nat) : Int :=
  roundI (boxSum (valOf zs) W (from_ (i % W) r) (from_ (i / W) r) (long_ (i % W) r W) (long_ (i / W) r H)) ((long_ (i % W) r W : Int) * (long_ (i / W) r H : Int))

def MeansInv (w : World) (B : Nat) (zs : List Int) (W H r : Nat) (wr : World) (m : Nat) : Prop :=
  Bl w wr ∧ ∃ cs : Array Value, Blk wr B 3 cs ∧ cs.size = W * H ∧ ∀ k, k < m → cs[k]? = some (.int .i64 (meanAt zs W H r k))

end Go.Proofs.YtjelhdpcaileiaaDoor


/-! At, halving and pasting. -/
namespace Go.Proofs.YtjelhdpcaileiaaDoor
open Go.RowKit

/-! ### plain -/
/-- The ink at a place, also beyond the page. -/
def atI (bs : List Bool) (W H x y : Int) : Bool := decide (0 ≤ x ∧ x < W ∧ 0 ≤ y ∧ y < H) && bs.getD (y.toNat * W.toNat + x.toNat) false
def pix (bs : List Bool) (W x y : Nat) : Bool := bs.getD (y * W + x) false
theorem atI_in (bs : List Bool) (W H x y : Nat) (hx : x < W) (hy : y < H) : atI bs W H x y = pix bs W x y := by
  unfold atI pix
  have : decide (0 ≤ (x : Int) ∧ (x : Int) < W ∧ 0 ≤ (y : Int) ∧ (y : Int) < H) = true := by simp; omega
  rw [this]; simp
theorem atI_out (bs : List Bool) (W H x y : Int) (h : ¬ (0 ≤ x ∧ x < W ∧ 0 ≤ y ∧ y < H)) : atI bs W H x y = false := by
  unfold atI; simp only [h]; simp

/-- The cell of a place. -/
theorem Reads.place {w : World} {A : Option Addr} {W H : Nat} {bs : List Bool} (h : Reads w 1 A (W * H) (bs.map .bool)) {x y : Nat} (hx : x < W) (hy : y < H) :
    ∃ ad, A = some ad ∧ w.cell? (ad.add (y * W + x)) = some (.bool (pix bs W x y)) := by
  have hk := place_lt hx hy
  obtain ⟨ad, u, e, hu, hc⟩ := h.at_ hk
  refine ⟨ad, e, ?_⟩
  have hl : y * W + x < bs.length := by have := h.1; simp at this; omega
  have hu' : u = .bool (pix bs W x y) := by simpa [pix, List.getD, hl] using hu.symm
  rw [hc, hu']

/-! ### bedref2.At -/
set_option maxRecDepth 100000 in
set_option maxHeartbeats 1000000 in
theorem at_any (W H : Nat) (A : Option Addr) (c : Nat) (bs : List Bool) (x y : Int) (w : World) (hr : Reads w 1 A (W * H) (bs.map .bool)) (hW : W ≤ 4000) (hH : H ≤ 4000) :
    Calls Tryd.prog 80 #[.agg #[.int .i64 W, .int .i64 H, .slice A (W * H) c], .int .i64 x, .int .i64 y] w fun e w' => e = .returned (.bool (atI bs W H x y)) ∧ Bl w w' := by
  cases h1 : inB x 0 ((W : Int) - 1)
  case false =>
    have ha : atI bs W H x y = false := atI_out _ _ _ _ _ (by have := inB_false.1 h1; omega)
    have Ha := Lib.hid ha; clear ha hr
    go_enter Tryd.func80, Tryd.ntmps80
    go_wp2_with (go_at_call 14; refine (in_any _ _ _ _).mono ?_; rintro e w' ⟨rfl, rfl⟩)
    go_ret
    exact ⟨ret_bool Ha.out.symm, (Bl.refl _).alloc _⟩
  case true =>
    cases h2 : inB y 0 ((H : Int) - 1)
    case false =>
      have ha : atI bs W H x y = false := atI_out _ _ _ _ _ (by have := inB_false.1 h2; omega)
      have Ha := Lib.hid ha; clear ha hr
      go_enter Tryd.func80, Tryd.ntmps80
      go_wp2_with (go_at_call 14; refine (in_any _ _ _ _).mono ?_; rintro e w' ⟨rfl, rfl⟩)
      go_ret
      exact ⟨ret_bool Ha.out.symm, (Bl.refl _).alloc _⟩
    case true =>
      obtain ⟨a1, a2⟩ := inB_true.1 h1
      obtain ⟨b1, b2⟩ := inB_true.1 h2
      obtain ⟨x, rfl⟩ := Int.eq_ofNat_of_zero_le a1
      obtain ⟨y, rfl⟩ := Int.eq_ofNat_of_zero_le b1
      have hx : x < W := by omega
      have hy : y < H := by omega
      have ha := atI_in bs W H x y hx hy
      obtain ⟨ad, rfl, hc⟩ := hr.place hx hy
      have hk := place_lt hx hy
      obtain ⟨k, hkk⟩ : ∃ k, k = y * W + x := ⟨_, rfl⟩
      rw [← hkk] at hc hk
      have ek : (y : Int) * (W : Int) + (x : Int) = (k : Int) := by rw [hkk]; simp
      have hkl : (k : Int) < (W : Int) * (H : Int) := by have := Int.natCast_mul W H; omega
      have hq : (0 : Int) ≤ (y : Int) * (W : Int) ∧ (y : Int) * (W : Int) ≤ 16000000 := by
        have h5 := Int.natCast_mul y W
        have h6 := Nat.mul_le_mul (show y ≤ 4000 by omega) hW
        omega
      have hlt : ad.block < w.heap.size := by have := World.block_lt_of_cell? w _ hc; rwa [block_of_add] at this
      have hc' : ∀ o, (w.alloc o).cell? (ad.add k) = some (.bool (pix bs W x y)) := fun o => ((Bl.refl w).alloc o).at hc
      have Ha := Lib.hid ha; have Hkk := Lib.hid hkk
      clear ha hkk hr
      go_enter Tryd.func80, Tryd.ntmps80
      go_wp2_with (go_at_call 14; refine (in_any _ _ _ _).mono ?_; rintro e w' ⟨rfl, rfl⟩)
      go_ret
      exact ⟨ret_bool Ha.out.symm, (Bl.refl _).alloc _⟩

end Go.Proofs.YtjelhdpcaileiaaDoor


/-! Sums of numbers, tables of numbers in memory. -/
namespace Go.Proofs.YtjelhdpcaileiaaDoor
open Go.RowKit

/-! ### sums -/
def sumN (f : Nat → Nat) : Nat → Nat
  | 0 => 0
  | n + 1 => sumN f n + f n
theorem sumN_congr {f g : Nat → Nat} : ∀ {n : Nat}, (∀ i, i < n → f i = g i) → sumN f n = sumN g n
  | 0, _ => rfl
  | n + 1, h => by
    unfold sumN
    rw [sumN_congr (n := n) (fun i hi => h i (by omega)), h n (by omega)]
theorem sumN_zero (n : Nat) : sumN (fun _ => 0) n = 0 := by
  induction n with
  | zero => rfl
  | succ n ih => simp [sumN, ih]
theorem sumN_add (f g : Nat → Nat) (n : Nat) : sumN (fun i => f i + g i) n = sumN f n + sumN g n := by
  induction n with
  | zero => rfl
  | succ n ih => simp only [sumN, ih]; omega
theorem sumN_split (f : Nat → Nat) (m n : Nat) : sumN f (m + n) = sumN f m + sumN (fun i => f (m + i)) n := by
  induction n with
  | zero => rfl
  | succ n ih => rw [← Nat.add_assoc]; simp only [sumN, ih]; omega
theorem sumN_swap (f : Nat → Nat → Nat) (W H : Nat) : sumN (fun x => sumN (fun y => f x y) H) W = sumN (fun y => sumN (fun x => f x y) W) H := by
  induction W with
  | zero => simp [sumN, sumN_zero]
  | succ W ih => simp only [sumN, ih, sumN_add]
theorem sumN_flat (g : Nat → Nat) (W H : Nat) : sumN g (H * W) = sumN (fun y => sumN (fun x => g (y * W + x)) W) H := by
  induction H with
  | zero => simp [sumN]
  | succ H ih => rw [Nat.add_mul, Nat.one_mul, sumN_split, ih]; rfl
theorem sumN_le {f : Nat → Nat} {c : Nat} (h : ∀ i, f i ≤ c) (n : Nat) : sumN f n ≤ n * c := by
  induction n with
  | zero => simp [sumN]
  | succ n ih => have := h n; simp only [sumN, Nat.add_mul]; omega
theorem sumN_mono {f g : Nat → Nat} (h : ∀ i, f i ≤ g i) (n : Nat) : sumN f n ≤ sumN g n := by
  induction n with
  | zero => exact Nat.le_refl _
  | succ n ih => have := h n; simp only [sumN]; omega
/-- Places by rows, or by columns. -/
theorem sumN_cols (g : Nat → Nat) (W H : Nat) : sumN (fun x => sumN (fun y => g (y * W + x)) H) W = sumN g (W * H) := by
  rw [Nat.mul_comm, sumN_flat, sumN_swap]

/-! ### a table of numbers in memory -/
def tabI (N : Nat) (f : Nat → Int) : Array Value := ((List.range N).map fun k => Value.int .i64 (f k)).toArray
theorem tabI_size (N : Nat) (f : Nat → Int) : (tabI N f).size = N := by simp [tabI]
theorem tabI_get {N : Nat} (f : Nat → Int) {k : Nat} (h : k < N) : (tabI N f)[k]? = some (.int .i64 (f k)) := by simp [tabI, h]
theorem tabI_congr {N : Nat} {f g : Nat → Int} (h : ∀ k, k < N → f k = g k) : tabI N f = tabI N g := by
  unfold tabI
  congr 1
  exact List.map_congr_left fun k hk => by rw [h k (List.mem_range.1 hk)]
theorem tabI_set {N : Nat} {f g : Nat → Int} {a : Nat} {v : Int} (hg : ∀ k, k < N → g k = if k = a then v else f k) : (tabI N f).setIfInBounds a (.int .i64 v) = tabI N g := by
  apply Array.ext_getElem?
  intro i
  rcases Nat.lt_or_ge i N with h | h
  · rw [tabI_get g h, hg i h]
    by_cases e : a = i
    · subst e
      simp [tabI, h]
    · rw [Array.getElem?_setIfInBounds_ne e, tabI_get f h, if_neg (fun e' => e e'.symm)]
  · rw [Array.getElem?_eq_none (by simp [tabI_size]; exact h), Array.getElem?_eq_none (by rw [tabI_size]; exact h)]
theorem tabI_made (N : Nat) : madeCells #[.int .i64 0] N = tabI N (fun _ => 0) := by
  apply Array.ext_getElem?
  intro i
  rcases Nat.lt_or_ge i N with h | h
  · rw [tabI_get _ h]; simp [madeCells, h, Nat.mod_one]
  · rw [Array.getElem?_eq_none (by rw [size_madeCells]; exact h), Array.getElem?_eq_none (by rw [tabI_size]; exact h)]
def tabL (N : Nat) (f : Nat → Int) : List Int := (List.range N).map f
theorem tabL_len (N : Nat) (f : Nat → Int) : (tabL N f).length = N := by simp [tabL]
theorem tabL_get {N : Nat} (f : Nat → Int) {k : Nat} (h : k < N) : (tabL N f)[k]? = some (f k) := by simp [tabL, h]
theorem tabL_congr {N : Nat} {f g : Nat → Int} (h : ∀ k, k < N → f k = g k) : tabL N f = tabL N g :=
  List.map_congr_left fun k hk => h k (List.mem_range.1 hk)
theorem Blk.tabReads {w : World} {g : Nat} {t : TypeId} {N : Nat} {f : Nat → Int} (h : Blk w g t (tabI N f)) : Reads w 1 (some ⟨g, 0, none⟩) N ((tabL N f).map (.int .i64)) := by
  have := h.reads N 1 (by rw [tabI_size]; omega)
  have e : (tabI N f).toList = (tabL N f).map (.int .i64) := by simp [tabI, tabL, Function.comp_def]
  rwa [e] at this
theorem Blk.tabAt {w : World} {g : Nat} {t : TypeId} {N : Nat} {f : Nat → Int} (h : Blk w g t (tabI N f)) {k : Nat} (hk : k < N) : w.cell? ⟨g, k, none⟩ = some (.int .i64 (f k)) := (h.cell k).trans (tabI_get f hk)
theorem Blk.tabSet {w : World} {g : Nat} {t : TypeId} {N : Nat} {f f' : Nat → Int} (h : Blk w g t (tabI N f)) (a : Nat) (v : Int) (hg : ∀ k, k < N → f' k = if k = a then v else f k) : Blk (w.setCell ⟨g, a, none⟩ (.int .i64 v)) g t (tabI N f') := by
  have := h.set_ a (.int .i64 v)
  rwa [tabI_set hg] at this
theorem Reads.intAt {w : World} {A : Option Addr} {n k : Nat} {f : Nat → Int} (h : Reads w 1 A n ((tabL n f).map (.int .i64))) (hk : k < n) : ∃ ad, A = some ad ∧ w.cell? (ad.add k) = some (.int .i64 (f k)) := by
  obtain ⟨ad, u, e, hu, hc⟩ := h.at_ hk
  refine ⟨ad, e, ?_⟩
  rw [hc, ← hu]
  simp [tabL, hk]
end Go.Proofs.YtjelhdpcaileiaaDoor


/-! The plain law of leaning and of profiles. -/
namespace Go.Proofs.YtjelhdpcaileiaaDoor
open Go.RowKit

/-! ### a number that leans -/
def shiftI (n : Int) : Int := if n < 0 then -roundI (-n) 1024 else roundI n 1024
theorem shiftI_bd {n : Int} (h : -2000000 ≤ n ∧ n ≤ 2000000) : -2000 ≤ shiftI n ∧ shiftI n ≤ 2000 := by
  unfold shiftI roundI
  split <;> omega
def leanI (W : Nat) (n : Int) (x : Nat) : Int := shiftI (n * ((x : Int) - ((W : Int) - 1) / 2))
theorem leanArg_bd {W : Nat} {n : Int} {x : Nat} (hW : W ≤ 4000) (hn : -256 ≤ n ∧ n ≤ 256) (hx : x < W) : -2000000 ≤ n * ((x : Int) - ((W : Int) - 1) / 2) ∧ n * ((x : Int) - ((W : Int) - 1) / 2) ≤ 2000000 := by
  obtain ⟨d, hd⟩ : ∃ d, d = (x : Int) - ((W : Int) - 1) / 2 := ⟨_, rfl⟩
  rw [← hd]
  have h1 : -4000 ≤ d ∧ d ≤ 4000 := by omega
  have h2 : (n * d).natAbs ≤ 256 * 4000 := by
    rw [Int.natAbs_mul]
    exact Nat.mul_le_mul (by omega) (by omega)
  omega
theorem leanI_bd {W : Nat} {n : Int} {x : Nat} (hW : W ≤ 4000) (hn : -256 ≤ n ∧ n ≤ 256) (hx : x < W) : -2000 ≤ leanI W n x ∧ leanI W n x ≤ 2000 :=
  shiftI_bd (leanArg_bd hW hn hx)

/-! ### places of ink -/
def spotL (bs : List Bool) : Nat → List Nat
  | 0 => []
  | m + 1 => spotL bs m ++ (if bs.getD m false then [m] else [])
theorem spotL_lt (bs : List Bool) : ∀ (m : Nat) (i : Nat), i ∈ spotL bs m → i < m
  | 0, i, h => by simp [spotL] at h
  | m + 1, i, h => by
    simp only [spotL, List.mem_append] at h
    rcases h with h | h
    · have := spotL_lt bs m i h; omega
    · split at h <;> simp at h; omega
theorem spotL_len (bs : List Bool) (m : Nat) : (spotL bs m).length ≤ m := by
  induction m with
  | zero => simp [spotL]
  | succ m ih => simp only [spotL, List.length_append]; split <;> simp <;> omega
def b1 (b : Bool) : Nat := if b then 1 else 0
theorem spotL_count (bs : List Bool) (p : Nat → Bool) (m : Nat) : (spotL bs m).countP p = sumN (fun i => b1 (bs.getD i false && p i)) m := by
  induction m with
  | zero => rfl
  | succ m ih =>
    simp only [spotL, List.countP_append, ih, sumN]
    cases bs.getD m false <;> cases hp : p m <;> simp [b1, hp]

/-- The place in the profile. -/
def profAt (W H : Nat) (n : Int) (i : Nat) : Int := ((H / 2 : Nat) : Int) + ((i / W : Nat) : Int) + leanI W n (i % W)
def profK (W H : Nat) (n : Int) (k i : Nat) : Bool := decide (profAt W H n i = (k : Int))
/-- How much ink row k of the profile has. -/
def profN (bs : List Bool) (W H : Nat) (n : Int) (k : Nat) : Nat := sumN (fun i => b1 (bs.getD i false && profK W H n k i)) (W * H)
/-- .. as far as columns and rows are seen. -/
def profC (bs : List Bool) (W H : Nat) (n : Int) (x y : Nat) (k : Nat) : Nat :=
  sumN (fun x' => sumN (fun y' => b1 (bs.getD (y' * W + x') false && profK W H n k (y' * W + x'))) H) x + sumN (fun y' => b1 (bs.getD (y' * W + x) false && profK W H n k (y' * W + x))) y
theorem profC_start (bs : List Bool) (W H : Nat) (n : Int) (k : Nat) : profC bs W H n 0 0 k = 0 := rfl
theorem profC_col (bs : List Bool) (W H : Nat) (n : Int) (x k : Nat) : profC bs W H n x H k = profC bs W H n (x + 1) 0 k := rfl
theorem profC_end (bs : List Bool) (W H : Nat) (n : Int) (k : Nat) : profC bs W H n W 0 k = profN bs W H n k := by
  unfold profC profN
  rw [sumN_cols (fun i => b1 (bs.getD i false && profK W H n k i))]
  rfl
theorem profC_step (bs : List Bool) (W H : Nat) (n : Int) (x y k : Nat) : profC bs W H n x (y + 1) k = profC bs W H n x y k + b1 (bs.getD (y * W + x) false && profK W H n k (y * W + x)) := by
  unfold profC; simp only [sumN]; omega
theorem profN_le (bs : List Bool) (W H : Nat) (n : Int) (k : Nat) : profN bs W H n k ≤ W * H := by
  have := sumN_le (f := fun i => b1 (bs.getD i false && profK W H n k i)) (c := 1) (fun i => by unfold b1; split <;> omega) (W * H)
  simpa [profN] using this
def sqI (l : List Int) : Int := (l.map fun n => n * n).sum
end Go.Proofs.YtjelhdpcaileiaaDoor


/-! The plain law of ink that is moved place by place. -/
namespace Go.Proofs.YtjelhdpcaileiaaDoor
open Go.RowKit

/-! ### a table of bools in memory -/
def tabB (N : Nat) (f : Nat → Bool) : Array Value := ((List.range N).map fun k => Value.bool (f k)).toArray
theorem tabB_size (N : Nat) (f : Nat → Bool) : (tabB N f).size = N := by simp [tabB]
theorem tabB_get {N : Nat} (f : Nat → Bool) {k : Nat} (h : k < N) : (tabB N f)[k]? = some (.bool (f k)) := by simp [tabB, h]
theorem tabB_congr {N : Nat} {f g : Nat → Bool} (h : ∀ k, k < N → f k = g k) : tabB N f = tabB N g := by
  unfold tabB
  congr 1
  exact List.map_congr_left fun k hk => by rw [h k (List.mem_range.1 hk)]
theorem tabB_set {N : Nat} {f g : Nat → Bool} {a : Nat} {v : Bool} (hg : ∀ k, k < N → g k = if k = a then v else f k) : (tabB N f).setIfInBounds a (.bool v) = tabB N g := by
  apply Array.ext_getElem?
  intro i
  rcases Nat.lt_or_ge i N with h | h
  · rw [tabB_get g h, hg i h]
    by_cases e : a = i
    · subst e
      simp [tabB, h]
    · rw [Array.getElem?_setIfInBounds_ne e, tabB_get f h, if_neg (fun e' => e e'.symm)]
  · rw [Array.getElem?_eq_none (by simp [tabB_size]; exact h), Array.getElem?_eq_none (by rw [tabB_size]; exact h)]
theorem tabB_made (N : Nat) : madeCells #[.bool false] N = tabB N (fun _ => false) := by
  apply Array.ext_getElem?
  intro i
  rcases Nat.lt_or_ge i N with h | h
  · rw [tabB_get _ h]; simp [madeCells, h, Nat.mod_one]
  · rw [Array.getElem?_eq_none (by rw [size_madeCells]; exact h), Array.getElem?_eq_none (by rw [tabB_size]; exact h)]
theorem Blk.tabReadsB {w : World} {g : Nat} {t : TypeId} {N : Nat} {f : Nat → Bool} (h : Blk w g t (tabB N f)) : Reads w 1 (some ⟨g, 0, none⟩) N (((List.range N).map f).map .bool) := by
  have := h.reads N 1 (by rw [tabB_size]; omega)
  have e : (tabB N f).toList = ((List.range N).map f).map .bool := by simp [tabB, Function.comp_def]
  rwa [e] at this
theorem Blk.tabAtB {w : World} {g : Nat} {t : TypeId} {N : Nat} {f : Nat → Bool} (h : Blk w g t (tabB N f)) {k : Nat} (hk : k < N) : w.cell? ⟨g, k, none⟩ = some (.bool (f k)) := (h.cell k).trans (tabB_get f hk)
theorem Blk.tabSetB {w : World} {g : Nat} {t : TypeId} {N : Nat} {f f' : Nat → Bool} (h : Blk w g t (tabB N f)) (a : Nat) (v : Bool) (hg : ∀ k, k < N → f' k = if k = a then v else f k) : Blk (w.setCell ⟨g, a, none⟩ (.bool v)) g t (tabB N f') := by
  have := h.set_ a (.bool v)
  rwa [tabB_set hg] at this

/-! ### moving -/
theorem atI_ways' (cs : List Bool) (W H : Nat) (x y : Int) : atI cs W H x y = false ∨ ∃ X Y : Nat, x = (X : Int) ∧ y = (Y : Int) ∧ X < W ∧ Y < H ∧ atI cs W H x y = pix cs W X Y := by
  by_cases c : 0 ≤ x ∧ x < W ∧ 0 ≤ y ∧ y < H
  · obtain ⟨c1, c2, c3, c4⟩ := c
    obtain ⟨X, rfl⟩ := Int.eq_ofNat_of_zero_le c1
    obtain ⟨Y, rfl⟩ := Int.eq_ofNat_of_zero_le c3
    exact Or.inr ⟨X, Y, rfl, rfl, by omega, by omega, atI_in cs W H X Y (by omega) (by omega)⟩
  · exact Or.inl (atI_out cs W H x y c)
def hitTo (bs : List Bool) (W : Nat) (T : Nat → Nat → Int × Int) : Nat → Nat → Bool
  | 0, _ => false
  | m + 1, k => hitTo bs W T m k || (bs.getD m false && decide (T (m % W) (m / W) = (((k % W : Nat) : Int), ((k / W : Nat) : Int))))
theorem hitTo_iff (bs : List Bool) (W : Nat) (T : Nat → Nat → Int × Int) (k : Nat) : ∀ m, hitTo bs W T m k = true ↔ ∃ i, i < m ∧ bs.getD i false = true ∧ T (i % W) (i / W) = (((k % W : Nat) : Int), ((k / W : Nat) : Int))
  | 0 => by simp [hitTo]
  | m + 1 => by
    simp only [hitTo, Bool.or_eq_true, hitTo_iff bs W T k m, Bool.and_eq_true, decide_eq_true_eq]
    constructor
    · rintro (⟨i, h1, h2⟩ | h)
      · exact ⟨i, by omega, h2⟩
      · exact ⟨m, by omega, h⟩
    · rintro ⟨i, h1, h2⟩
      rcases Nat.lt_or_ge i m with h | h
      · exact Or.inl ⟨i, h, h2⟩
      · obtain rfl : i = m := by omega
        exact Or.inr h2
theorem hitTo_no {bs : List Bool} {W m : Nat} {T : Nat → Nat → Int × Int} (h : bs.getD m false = false) (k : Nat) : hitTo bs W T (m + 1) k = hitTo bs W T m k := by
  simp only [hitTo, h, Bool.false_and, Bool.or_false]
theorem place_parts {W H k : Nat} (hk : k < W * H) : k % W < W ∧ k / W < H ∧ (k / W) * W + k % W = k := by
  have hW : 0 < W := by rcases Nat.eq_zero_or_pos W with h0 | h0; (subst h0; simp at hk); exact h0
  exact ⟨Nat.mod_lt _ hW, Nat.div_lt_of_lt_mul hk, by have := Nat.div_add_mod k W; rw [Nat.mul_comm] at this; exact this⟩
theorem at_parts {W x : Nat} (y : Nat) (hx : x < W) : (y * W + x) % W = x ∧ (y * W + x) / W = y :=
  ⟨by rw [Nat.mul_comm, Nat.mul_add_mod, Nat.mod_eq_of_lt hx], by rw [Nat.mul_comm, Nat.mul_add_div (by omega), Nat.div_eq_of_lt hx, Nat.add_zero]⟩
theorem hitTo_out {bs : List Bool} {W H m : Nat} {T : Nat → Nat → Int × Int} {x y : Int} (hT : T (m % W) (m / W) = (x, y)) (ho : x < 0 ∨ (W : Int) ≤ x ∨ y < 0 ∨ (H : Int) ≤ y) (k : Nat) (hk : k < W * H) : hitTo bs W T (m + 1) k = hitTo bs W T m k := by
  obtain ⟨h1, h2, _⟩ := place_parts hk
  have : ¬ ((x, y) = (((k % W : Nat) : Int), ((k / W : Nat) : Int))) := by
    rw [Prod.mk.injEq]
    generalize k % W = a at h1 ⊢
    generalize k / W = b at h2 ⊢
    omega
  simp only [hitTo, hT, decide_eq_false this, Bool.and_false, Bool.or_false]
theorem hitTo_in {bs : List Bool} {W H m X Y : Nat} {T : Nat → Nat → Int × Int} (h : bs.getD m false = true) (hT : T (m % W) (m / W) = ((X : Int), (Y : Int))) (hX : X < W) (k : Nat) (hk : k < W * H) :
    hitTo bs W T (m + 1) k = if k = Y * W + X then true else hitTo bs W T m k := by
  obtain ⟨h1, h2, h3⟩ := place_parts hk
  obtain ⟨p1, p2⟩ := at_parts Y hX
  simp only [hitTo, hT, h, Bool.true_and]
  by_cases e : k = Y * W + X
  · rw [if_pos e, e, p1, p2]; simp
  · rw [if_neg e]
    have : ¬ (((X : Int), (Y : Int)) = (((k % W : Nat) : Int), ((k / W : Nat) : Int))) := by
      rw [Prod.mk.injEq]
      rintro ⟨a, b⟩
      have a' : X = k % W := by omega
      have b' : Y = k / W := by omega
      rw [a', b', h3] at e
      exact e rfl
    rw [decide_eq_false this, Bool.or_false]
/-- Columns that go down. -/
theorem hit_lean (bs : List Bool) (W H : Nat) (s : Nat → Int) (k : Nat) (hk : k < W * H) :
    hitTo bs W (fun x y => ((x : Int), (y : Int) + s x)) (W * H) k = atI bs W H ((k % W : Nat) : Int) (((k / W : Nat) : Int) - s (k % W)) := by
  obtain ⟨h1, h2, h3⟩ := place_parts hk
  rw [Bool.eq_iff_iff, hitTo_iff]
  constructor
  · rintro ⟨i, hi, hb, hT⟩
    obtain ⟨i1, i2, i3⟩ := place_parts hi
    rw [Prod.mk.injEq] at hT
    have e1 : i % W = k % W := by omega
    rw [e1] at hT
    have e2 : ((k / W : Nat) : Int) - s (k % W) = ((i / W : Nat) : Int) := by omega
    rw [e2, atI_in bs W H _ _ h1 i2]
    unfold pix
    rw [← e1, i3]
    exact hb
  · intro h
    rcases atI_ways' bs W H ((k % W : Nat) : Int) (((k / W : Nat) : Int) - s (k % W)) with e | ⟨X, Y, eX, eY, hX, hY, e⟩
    · rw [e] at h; cases h
    · rw [e] at h
      obtain ⟨p1, p2⟩ := at_parts Y hX
      refine ⟨Y * W + X, place_lt hX hY, h, ?_⟩
      rw [p1, p2]
      have : X = k % W := by omega
      rw [Prod.mk.injEq, this]
      exact ⟨rfl, by omega⟩
/-- Rows that go to the right. -/
theorem hit_slant (bs : List Bool) (W H : Nat) (s : Nat → Int) (k : Nat) (hk : k < W * H) :
    hitTo bs W (fun x y => ((x : Int) + s y, (y : Int))) (W * H) k = atI bs W H (((k % W : Nat) : Int) - s (k / W)) ((k / W : Nat) : Int) := by
  obtain ⟨h1, h2, h3⟩ := place_parts hk
  rw [Bool.eq_iff_iff, hitTo_iff]
  constructor
  · rintro ⟨i, hi, hb, hT⟩
    obtain ⟨i1, i2, i3⟩ := place_parts hi
    rw [Prod.mk.injEq] at hT
    have e1 : i / W = k / W := by omega
    rw [e1] at hT
    have e2 : ((k % W : Nat) : Int) - s (k / W) = ((i % W : Nat) : Int) := by omega
    rw [e2, atI_in bs W H _ _ i1 h2]
    unfold pix
    rw [← e1, i3]
    exact hb
  · intro h
    rcases atI_ways' bs W H (((k % W : Nat) : Int) - s (k / W)) ((k / W : Nat) : Int) with e | ⟨X, Y, eX, eY, hX, hY, e⟩
    · rw [e] at h; cases h
    · rw [e] at h
      obtain ⟨p1, p2⟩ := at_parts Y hX
      refine ⟨Y * W + X, place_lt hX hY, h, ?_⟩
      rw [p1, p2]
      have : Y = k / W := by omega
      rw [Prod.mk.injEq, this]
      exact ⟨by omega, rfl⟩

end Go.Proofs.YtjelhdpcaileiaaDoor


/-! The plain law of counts and of bounds. -/
namespace Go.Proofs.YtjelhdpcaileiaaDoor
open Go.RowKit

/-! ### counts -/
theorem b1_le (b : Bool) : b1 b ≤ 1 := by unfold b1; split <;> omega
def rowN (bs : List Bool) (W y : Nat) : Nat := sumN (fun x => b1 (pix bs W x y)) W
def colN (bs : List Bool) (W H x : Nat) : Nat := sumN (fun y => b1 (pix bs W x y)) H
def cntBy (bs : List Bool) (num : Nat → Nat) (m k : Nat) : Nat := sumN (fun i => b1 (bs.getD i false && decide (num i = k))) m
theorem cntBy_succ (bs : List Bool) (num : Nat → Nat) (m k : Nat) : cntBy bs num (m + 1) k = cntBy bs num m k + b1 (bs.getD m false && decide (num m = k)) := rfl
theorem cntBy_le (bs : List Bool) (num : Nat → Nat) (m k : Nat) : cntBy bs num m k ≤ m := by
  have := sumN_le (f := fun i => b1 (bs.getD i false && decide (num i = k))) (c := 1) (fun i => b1_le _) m
  simpa [cntBy] using this
theorem rowN_le (bs : List Bool) (W y : Nat) : rowN bs W y ≤ W := by
  have := sumN_le (f := fun x => b1 (pix bs W x y)) (c := 1) (fun i => b1_le _) W
  simpa [rowN] using this
theorem colN_le (bs : List Bool) (W H x : Nat) : colN bs W H x ≤ H := by
  have := sumN_le (f := fun y => b1 (pix bs W x y)) (c := 1) (fun i => b1_le _) H
  simpa [colN] using this
theorem sumN_pick (f : Nat → Nat) (n k : Nat) : sumN (fun y => if y = k then f y else 0) n = if k < n then f k else 0 := by
  induction n with
  | zero => simp [sumN]
  | succ n ih =>
    simp only [sumN, ih]
    by_cases h : n = k
    · subst h
      rw [if_neg (by omega), if_pos rfl, if_pos (by omega)]; omega
    · rw [if_neg h]
      by_cases h2 : k < n
      · rw [if_pos h2, if_pos (by omega)]; omega
      · rw [if_neg h2, if_neg (by omega)]
theorem cntBy_rows (bs : List Bool) (W H k : Nat) (hk : k < H) : cntBy bs (fun i => i / W) (W * H) k = rowN bs W k := by
  unfold cntBy
  rw [Nat.mul_comm, sumN_flat]
  have e : ∀ y, y < H → sumN (fun x => b1 (bs.getD (y * W + x) false && decide ((y * W + x) / W = k))) W = if y = k then rowN bs W y else 0 := by
    intro y _
    by_cases h : y = k
    · rw [if_pos h]
      refine sumN_congr fun x hx => ?_
      rw [(at_parts y hx).2, decide_eq_true h, Bool.and_true]
      rfl
    · rw [if_neg h]
      rw [← sumN_zero W]
      refine sumN_congr fun x hx => ?_
      rw [(at_parts y hx).2, decide_eq_false h, Bool.and_false]
      rfl
  rw [sumN_congr e, sumN_pick, if_pos hk]
theorem cntBy_cols (bs : List Bool) (W H k : Nat) (hk : k < W) : cntBy bs (fun i => i % W) (W * H) k = colN bs W H k := by
  unfold cntBy
  rw [Nat.mul_comm, sumN_flat]
  refine sumN_congr fun y _ => ?_
  have e : ∀ x, x < W → b1 (bs.getD (y * W + x) false && decide ((y * W + x) % W = k)) = if x = k then b1 (pix bs W x y) else 0 := by
    intro x hx
    rw [(at_parts y hx).1]
    by_cases h : x = k
    · rw [if_pos h, decide_eq_true h, Bool.and_true]; rfl
    · rw [if_neg h, decide_eq_false h, Bool.and_false]; rfl
  rw [sumN_congr e, sumN_pick (fun x => b1 (pix bs W x y)), if_pos hk]
/-- Ink in a box. -/
def inkN (bs : List Bool) (W X Y BW BH : Nat) : Nat := sumN (fun j => sumN (fun i => b1 (pix bs W (X + i) (Y + j))) BW) BH
theorem ink_row (bs : List Bool) (W y : Nat) : inkN bs W 0 y W 1 = rowN bs W y := by
  unfold inkN rowN
  simp [sumN]
theorem ink_col (bs : List Bool) (W H x : Nat) : inkN bs W x 0 1 H = colN bs W H x := by
  unfold inkN colN
  simp [sumN]
theorem ink_grid (BW BH : Nat) (f : Nat → Nat → Bool) : sumN (fun i => b1 ((grid BW BH f).getD i false)) (BW * BH) = sumN (fun j => sumN (fun i => b1 (f i j)) BW) BH := by
  have hg : ∀ i, i < BW * BH → b1 ((grid BW BH f).getD i false) = b1 (f (i % BW) (i / BW)) := fun i hi => by rw [List.getD, grid_at _ _ _ _ hi]; rfl
  rw [sumN_congr hg, Nat.mul_comm, sumN_flat]
  refine sumN_congr fun y _ => sumN_congr fun x hx => ?_
  rw [(at_parts y hx).1, (at_parts y hx).2]
theorem sumN_pos (f : Nat → Nat) : ∀ n, 0 < sumN f n ↔ ∃ i, i < n ∧ 0 < f i
  | 0 => by simp [sumN]
  | n + 1 => by
    have ih := sumN_pos f n
    simp only [sumN]
    constructor
    · intro h
      by_cases h2 : 0 < f n
      · exact ⟨n, by omega, h2⟩
      · obtain ⟨i, hi, h3⟩ := ih.1 (by omega)
        exact ⟨i, by omega, h3⟩
    · rintro ⟨i, hi, h3⟩
      by_cases h2 : i = n
      · subst h2; omega
      · have := ih.2 ⟨i, by omega, h3⟩; omega
theorem b1_pos (b : Bool) : 0 < b1 b ↔ b = true := by cases b <;> simp [b1]
theorem rowN_pos (bs : List Bool) (W y : Nat) : 0 < rowN bs W y ↔ ∃ x, x < W ∧ pix bs W x y = true := by
  unfold rowN; rw [sumN_pos]; simp only [b1_pos]
theorem colN_pos (bs : List Bool) (W H x : Nat) : 0 < colN bs W H x ↔ ∃ y, y < H ∧ pix bs W x y = true := by
  unfold colN; rw [sumN_pos]; simp only [b1_pos]

/-! ### ends -/
def Ends (f : Nat → Nat) (N x r : Nat) : Prop := (x < N ∧ 0 < f x ∧ ∀ j, j < x → f j = 0) ∧ (r < N ∧ 0 < f r ∧ ∀ j, r < j → j < N → f j = 0)
def NoEnds (f : Nat → Nat) (N : Nat) : Prop := ∀ j, j < N → f j = 0
theorem Ends.same {f : Nat → Nat} {N x r x' r' : Nat} (h : Ends f N x r) (k : Ends f N x' r') : x = x' ∧ r = r' := by
  obtain ⟨⟨h1, h2, h3⟩, h4, h5, h6⟩ := h
  obtain ⟨⟨k1, k2, k3⟩, k4, k5, k6⟩ := k
  constructor
  · rcases Nat.lt_trichotomy x x' with c | c | c
    · have := k3 x c; omega
    · exact c
    · have := h3 x' c; omega
  · rcases Nat.lt_trichotomy r r' with c | c | c
    · have := h6 r' c k4; omega
    · exact c
    · have := k6 r c h4; omega
theorem Ends.not {f : Nat → Nat} {N x r : Nat} (h : Ends f N x r) (k : NoEnds f N) : False := by
  have := k x h.1.1
  have := h.1.2.1
  omega

/-! ### bounds -/
def BoundsIs (bs : List Bool) (W H : Nat) (is : Bool) (X Y BW BH : Int) : Prop :=
  (is = false ∧ NoEnds (colN bs W H) W ∧ X = 0 ∧ Y = 0 ∧ BW = 0 ∧ BH = 0) ∨
  (is = true ∧ ∃ l r t b : Nat, Ends (colN bs W H) W l r ∧ Ends (rowN bs W) H t b ∧ X = l ∧ Y = t ∧ BW = (r : Int) - l + 1 ∧ BH = (b : Int) - t + 1)
theorem BoundsIs.same {bs : List Bool} {W H : Nat} {is is' : Bool} {X Y BW BH X' Y' BW' BH' : Int} (h : BoundsIs bs W H is X Y BW BH) (k : BoundsIs bs W H is' X' Y' BW' BH') : is = is' ∧ X = X' ∧ Y = Y' ∧ BW = BW' ∧ BH = BH' := by
  rcases h with ⟨h1, h2, h3, h4, h5, h6⟩ | ⟨h1, l, r, t, b, h2, h3, h4, h5, h6, h7⟩ <;> rcases k with ⟨k1, k2, k3, k4, k5, k6⟩ | ⟨k1, l', r', t', b', k2, k3, k4, k5, k6, k7⟩
  · exact ⟨by rw [h1, k1], by omega, by omega, by omega, by omega⟩
  · exact (k2.not h2).elim
  · exact (h2.not k2).elim
  · obtain ⟨e1, e2⟩ := h2.same k2
    obtain ⟨e3, e4⟩ := h3.same k3
    exact ⟨by rw [h1, k1], by omega, by omega, by omega, by omega⟩
theorem noEnds_rows {bs : List Bool} {W H : Nat} (h : NoEnds (rowN bs W) H) : NoEnds (colN bs W H) W := by
  intro x hx
  rcases Nat.eq_zero_or_pos (colN bs W H x) with e | e
  · exact e
  · obtain ⟨y, hy, hp⟩ := (colN_pos bs W H x).1 e
    have := h y hy
    have := (rowN_pos bs W y).2 ⟨x, hx, hp⟩
    omega
theorem BoundsIs.bd {bs : List Bool} {W H : Nat} {is : Bool} {X Y BW BH : Int} (h : BoundsIs bs W H is X Y BW BH) : (0 ≤ X ∧ X ≤ W) ∧ (0 ≤ Y ∧ Y ≤ H) ∧ (0 ≤ BW ∧ BW ≤ W) ∧ (0 ≤ BH ∧ BH ≤ H) ∧ (is = true → X + BW ≤ W ∧ Y + BH ≤ H ∧ 1 ≤ BW ∧ 1 ≤ BH) := by
  rcases h with ⟨h1, h2, h3, h4, h5, h6⟩ | ⟨h1, l, r, t, b, h2, h3, h4, h5, h6, h7⟩
  · refine ⟨by omega, by omega, by omega, by omega, fun h => ?_⟩
    rw [h1] at h; cases h
  · have a1 := h2.1.1
    have a2 := h2.2.1
    have a3 := h3.1.1
    have a4 := h3.2.1
    have a5 : l ≤ r := by
      rcases Nat.lt_or_ge r l with c | c
      · have := h2.1.2.2 r c; have := h2.2.2.1; omega
      · exact c
    have a6 : t ≤ b := by
      rcases Nat.lt_or_ge b t with c | c
      · have := h3.1.2.2 b c; have := h3.2.2.1; omega
      · exact c
    exact ⟨by omega, by omega, by omega, by omega, fun _ => by omega⟩

/-- The bounds so far. -/
def BInv (bs : List Bool) (W H m : Nat) (l t r b : Int) : Prop :=
  ((∀ i, i < m → bs.getD i false = false) ∧ l = W ∧ t = H ∧ r = -1 ∧ b = -1) ∨
  ((∃ i, i < m ∧ bs.getD i false = true ∧ l = ((i % W : Nat) : Int)) ∧ (∃ i, i < m ∧ bs.getD i false = true ∧ t = ((i / W : Nat) : Int)) ∧ (∃ i, i < m ∧ bs.getD i false = true ∧ r = ((i % W : Nat) : Int)) ∧ (∃ i, i < m ∧ bs.getD i false = true ∧ b = ((i / W : Nat) : Int)) ∧
    ∀ i, i < m → bs.getD i false = true → l ≤ ((i % W : Nat) : Int) ∧ ((i % W : Nat) : Int) ≤ r ∧ t ≤ ((i / W : Nat) : Int) ∧ ((i / W : Nat) : Int) ≤ b)
theorem BInv.start (bs : List Bool) (W H : Nat) : BInv bs W H 0 W H (-1) (-1) := Or.inl ⟨fun i hi => by omega, rfl, rfl, rfl, rfl⟩
theorem BInv.no {bs : List Bool} {W H m : Nat} {l t r b : Int} (h : BInv bs W H m l t r b) (hm : bs.getD m false = false) : BInv bs W H (m + 1) l t r b := by
  rcases h with ⟨h1, h2⟩ | ⟨⟨i1, a1, b1', c1⟩, ⟨i2, a2, b2, c2⟩, ⟨i3, a3, b3, c3⟩, ⟨i4, a4, b4, c4⟩, h5⟩
  · refine Or.inl ⟨fun i hi => ?_, h2⟩
    rcases Nat.lt_or_ge i m with c | c
    · exact h1 i c
    · obtain rfl : i = m := by omega
      exact hm
  · refine Or.inr ⟨⟨i1, by omega, b1', c1⟩, ⟨i2, by omega, b2, c2⟩, ⟨i3, by omega, b3, c3⟩, ⟨i4, by omega, b4, c4⟩, fun i hi hb => ?_⟩
    rcases Nat.lt_or_ge i m with c | c
    · exact h5 i c hb
    · obtain rfl : i = m := by omega
      rw [hm] at hb; cases hb
theorem BInv.yes {bs : List Bool} {W H m : Nat} {l t r b : Int} (h : BInv bs W H m l t r b) (hm : bs.getD m false = true) (hx : m % W < W) (hy : m / W < H) {l' t' r' b' : Int}
    (el : l' = if ((m % W : Nat) : Int) < l then ((m % W : Nat) : Int) else l) (et : t' = if ((m / W : Nat) : Int) < t then ((m / W : Nat) : Int) else t)
    (er : r' = if r < ((m % W : Nat) : Int) then ((m % W : Nat) : Int) else r) (eb : b' = if b < ((m / W : Nat) : Int) then ((m / W : Nat) : Int) else b) : BInv bs W H (m + 1) l' t' r' b' := by
  obtain ⟨x, hx'⟩ : ∃ x, x = m % W := ⟨_, rfl⟩
  obtain ⟨y, hy'⟩ : ∃ y, y = m / W := ⟨_, rfl⟩
  rw [← hx'] at el er hx
  rw [← hy'] at et eb hy
  rcases h with ⟨h1, rfl, rfl, rfl, rfl⟩ | ⟨⟨i1, a1, b1', c1⟩, ⟨i2, a2, b2, c2⟩, ⟨i3, a3, b3, c3⟩, ⟨i4, a4, b4, c4⟩, h5⟩
  · rw [if_pos (by omega)] at el et er eb
    refine Or.inr ⟨⟨m, by omega, hm, by rw [← hx']; exact el⟩, ⟨m, by omega, hm, by rw [← hy']; exact et⟩, ⟨m, by omega, hm, by rw [← hx']; exact er⟩, ⟨m, by omega, hm, by rw [← hy']; exact eb⟩, fun i hi hb => ?_⟩
    rcases Nat.lt_or_ge i m with c | c
    · rw [h1 i c] at hb; cases hb
    · obtain rfl : i = m := by omega
      rw [← hx', ← hy']; omega
  · refine Or.inr ⟨?_, ?_, ?_, ?_, fun i hi hb => ?_⟩
    · by_cases c : (x : Int) < l
      · rw [if_pos c] at el; exact ⟨m, by omega, hm, by rw [← hx']; exact el⟩
      · rw [if_neg c] at el; exact ⟨i1, by omega, b1', by rw [el]; exact c1⟩
    · by_cases c : (y : Int) < t
      · rw [if_pos c] at et; exact ⟨m, by omega, hm, by rw [← hy']; exact et⟩
      · rw [if_neg c] at et; exact ⟨i2, by omega, b2, by rw [et]; exact c2⟩
    · by_cases c : r < (x : Int)
      · rw [if_pos c] at er; exact ⟨m, by omega, hm, by rw [← hx']; exact er⟩
      · rw [if_neg c] at er; exact ⟨i3, by omega, b3, by rw [er]; exact c3⟩
    · by_cases c : b < (y : Int)
      · rw [if_pos c] at eb; exact ⟨m, by omega, hm, by rw [← hy']; exact eb⟩
      · rw [if_neg c] at eb; exact ⟨i4, by omega, b4, by rw [eb]; exact c4⟩
    · have key : (l' ≤ l ∧ l' ≤ x) ∧ (t' ≤ t ∧ t' ≤ y) ∧ (r ≤ r' ∧ (x : Int) ≤ r') ∧ (b ≤ b' ∧ (y : Int) ≤ b') := by
        refine ⟨?_, ?_, ?_, ?_⟩
        · split at el <;> omega
        · split at et <;> omega
        · split at er <;> omega
        · split at eb <;> omega
      rcases Nat.lt_or_ge i m with c | c
      · have := h5 i c hb; omega
      · obtain rfl : i = m := by omega
        rw [← hx', ← hy']; omega
theorem BInv.bd {bs : List Bool} {W H m : Nat} {l t r b : Int} (h : BInv bs W H m l t r b) (hm : m ≤ W * H) : (0 ≤ l ∧ l ≤ W) ∧ (0 ≤ t ∧ t ≤ H) ∧ (-1 ≤ r ∧ r < W) ∧ (-1 ≤ b ∧ b < H) := by
  have hp : ∀ i, i < m → i % W < W ∧ i / W < H := fun i hi => by
    obtain ⟨a, b, _⟩ := place_parts (show i < W * H by omega)
    exact ⟨a, b⟩
  rcases h with ⟨h1, rfl, rfl, rfl, rfl⟩ | ⟨⟨i1, a1, b1', c1⟩, ⟨i2, a2, b2, c2⟩, ⟨i3, a3, b3, c3⟩, ⟨i4, a4, b4, c4⟩, h5⟩
  · omega
  · have p1 := (hp i1 a1).1; have p2 := (hp i2 a2).2; have p3 := (hp i3 a3).1; have p4 := (hp i4 a4).2
    clear h5 hp
    generalize i1 % W = x1 at c1 p1
    generalize i2 / W = y2 at c2 p2
    generalize i3 % W = x3 at c3 p3
    generalize i4 / W = y4 at c4 p4
    omega
theorem pix_place {bs : List Bool} {W H i : Nat} (hi : i < W * H) : pix bs W (i % W) (i / W) = bs.getD i false := by
  unfold pix; rw [(place_parts hi).2.2]
/-- What comes out. -/
theorem BInv.done {bs : List Bool} {W H : Nat} {l t r b : Int} (h : BInv bs W H (W * H) l t r b) :
    (r < 0 ∧ BoundsIs bs W H false 0 0 0 0) ∨ (¬ r < 0 ∧ BoundsIs bs W H true l t (r - l + 1) (b - t + 1)) := by
  rcases h with ⟨h1, rfl, rfl, rfl, rfl⟩ | ⟨⟨i1, a1, b1', c1⟩, ⟨i2, a2, b2, c2⟩, ⟨i3, a3, b3, c3⟩, ⟨i4, a4, b4, c4⟩, h5⟩
  · refine Or.inl ⟨by omega, Or.inl ⟨rfl, fun x hx => ?_, rfl, rfl, rfl, rfl⟩⟩
    rcases Nat.eq_zero_or_pos (colN bs W H x) with e | e
    · exact e
    · obtain ⟨y, hy, hp⟩ := (colN_pos bs W H x).1 e
      have := h1 (y * W + x) (place_lt hx hy)
      unfold pix at hp
      rw [this] at hp; cases hp
  · have q1 := place_parts a1; have q2 := place_parts a2; have q3 := place_parts a3; have q4 := place_parts a4
    have all : ∀ x y, x < W → y < H → pix bs W x y = true → l ≤ x ∧ (x : Int) ≤ r ∧ t ≤ y ∧ (y : Int) ≤ b := fun x y hx hy hp => by
      have := h5 (y * W + x) (place_lt hx hy) hp
      rwa [(at_parts y hx).1, (at_parts y hx).2] at this
    refine Or.inr ⟨by omega, Or.inr ⟨rfl, i1 % W, i3 % W, i2 / W, i4 / W, ⟨⟨q1.1, (colN_pos _ _ _ _).2 ⟨i1 / W, q1.2.1, by rw [pix_place a1]; exact b1'⟩, fun j hj => ?_⟩, q3.1, (colN_pos _ _ _ _).2 ⟨i3 / W, q3.2.1, by rw [pix_place a3]; exact b3⟩, fun j hj hj2 => ?_⟩,
      ⟨⟨q2.2.1, (rowN_pos _ _ _).2 ⟨i2 % W, q2.1, by rw [pix_place a2]; exact b2⟩, fun j hj => ?_⟩, q4.2.1, (rowN_pos _ _ _).2 ⟨i4 % W, q4.1, by rw [pix_place a4]; exact b4⟩, fun j hj hj2 => ?_⟩, c1, c2, by rw [c1, c3], by rw [c2, c4]⟩⟩
    · rcases Nat.eq_zero_or_pos (colN bs W H j) with e | e
      · exact e
      · obtain ⟨y, hy, hp⟩ := (colN_pos bs W H j).1 e
        have := all j y (by omega) hy hp; omega
    · rcases Nat.eq_zero_or_pos (colN bs W H j) with e | e
      · exact e
      · obtain ⟨y, hy, hp⟩ := (colN_pos bs W H j).1 e
        have := all j y (by omega) hy hp; omega
    · rcases Nat.eq_zero_or_pos (rowN bs W j) with e | e
      · exact e
      · obtain ⟨x, hx, hp⟩ := (rowN_pos bs W j).1 e
        have := all x j hx (by omega) hp; omega
    · rcases Nat.eq_zero_or_pos (rowN bs W j) with e | e
      · exact e
      · obtain ⟨x, hx, hp⟩ := (rowN_pos bs W j).1 e
        have := all x j hx (by omega) hp; omega

/-! ### values -/
def cntV (zs : List Int) (m k : Nat) : Nat := sumN (fun i => b1 (decide (valOf zs i = (k : Int)))) m
theorem cntV_succ (zs : List Int) (m k : Nat) : cntV zs (m + 1) k = cntV zs m k + b1 (decide (valOf zs m = (k : Int))) := rfl
theorem cntV_le (zs : List Int) (m k : Nat) : cntV zs m k ≤ m := by
  have := sumN_le (f := fun i => b1 (decide (valOf zs i = (k : Int)))) (c := 1) (fun i => b1_le _) m
  simpa [cntV] using this

end Go.Proofs.YtjelhdpcaileiaaDoor


/-! A page and an error: both outcomes under one roof; pages as grids. -/
namespace Go.Proofs.YtjelhdpcaileiaaDoor
open Go.RowKit

/-- The page that a function answers with its error: made anew, or empty. -/
def Res (B : Nat) (w : World) (err : Int) (W H : Nat) (cells : List Value) (a b : Int) (R : Option Addr) (m c : Nat) : Prop :=
  (err = 0 → NPage B w (.agg #[.int .i64 a, .int .i64 b, .slice R m c]) W H cells) ∧ (err ≠ 0 → a = 0 ∧ b = 0 ∧ R = none ∧ m = 0 ∧ c = 0)
theorem Res.bl {B : Nat} {w w' : World} {err : Int} {W H : Nat} {cells : List Value} {a b : Int} {R : Option Addr} {m c : Nat} (h : Res B w err W H cells a b R m c) (hb : Bl w w') : Res B w' err W H cells a b R m c :=
  ⟨fun e => (h.1 e).bl hb, h.2⟩
theorem Res.mono {B B' : Nat} {w : World} {err : Int} {W H : Nat} {cells : List Value} {a b : Int} {R : Option Addr} {m c : Nat} (h : Res B w err W H cells a b R m c) (hb : B' ≤ B) : Res B' w err W H cells a b R m c :=
  ⟨fun e => (h.1 e).mono hb, h.2⟩
theorem Res.zero (B : Nat) (w : World) {err : Int} (W H : Nat) (cells : List Value) (h : err ≠ 0) : Res B w err W H cells 0 0 none 0 0 :=
  ⟨fun e => absurd e h, fun _ => ⟨rfl, rfl, rfl, rfl, rfl⟩⟩
theorem Res.page {B : Nat} {w : World} {err : Int} {W H c : Nat} {R : Option Addr} {cells : List Value} (h : err = 0) (hr : Reads w 1 R (W * H) cells) (hn : ∀ ad, R = some ad → B ≤ ad.block) : Res B w err W H cells W H R (W * H) c :=
  ⟨fun _ => ⟨R, c, rfl, hr, hn⟩, fun e => absurd h e⟩

theorem MakesPage.bl {P : Program} {k : FuncId} {cap : Array Value} {w w' : World} {W H : Nat} {cells : List Value} (h : MakesPage P k cap w W H cells) (hb : Bl w w') : MakesPage P k cap w' W H cells :=
  ⟨h.1, fun wx hx => h.2 wx (hb.trans hx)⟩

theorem bitsIs_any (B : Nat) (err : Int) (W H : Nat) (xs : List Bool) (a b : Int) (R : Option Addr) (m c : Nat) (k : FuncId) (cap : Array Value) (w : World) (hv : Res B w err W H (xs.map .bool) a b R m c) (hk : err = 0 → MakesPage Tryd.prog k cap w W H (xs.map .bool)) (hl : err = 0 → W * H ≤ 1099511627776) :
    Calls Tryd.prog 17 #[.agg #[.int .i64 a, .int .i64 b, .slice R m c], .int .i64 err, .int .i64 err, .func (.func k) #[] cap] w fun e w' => e = .returned (.bool true) ∧ Bl w w' := by
  by_cases h : err = 0
  · have hp := hv.1 h
    have hm := hk h
    subst h
    exact bitsIs_ok W H _ xs k cap w hp.is hm (hl rfl)
  · obtain ⟨rfl, rfl, rfl, rfl, rfl⟩ := hv.2 h
    exact bitsIs_bad err _ w h

/-! ### grids -/
theorem grid_get {α : Type} (W H : Nat) (f : Nat → Nat → α) (x y : Nat) (hx : x < W) (hy : y < H) : (grid W H f)[y * W + x]? = some (f x y) := by
  rw [grid_at _ _ _ _ (place_lt hx hy), Nat.mul_comm, Nat.mul_add_mod, Nat.mod_eq_of_lt hx, Nat.mul_add_div (by omega), Nat.div_eq_of_lt hx, Nat.add_zero]
theorem pix_grid (W H : Nat) (f : Nat → Nat → Bool) (x y : Nat) (hx : x < W) (hy : y < H) : pix (grid W H f) W x y = f x y := by
  unfold pix
  simp [List.getD, grid_get W H f x y hx hy]
def vix (zs : List Int) (W x y : Nat) : Int := valOf zs (y * W + x)
theorem vix_grid (W H : Nat) (f : Nat → Nat → Int) (x y : Nat) (hx : x < W) (hy : y < H) : vix (grid W H f) W x y = f x y := by
  unfold vix valOf
  simp [List.getD, grid_get W H f x y hx hy]
theorem grid_pix (W H : Nat) (bs : List Bool) (h : bs.length = W * H) : grid W H (pix bs W) = bs := by
  apply List.ext_getElem?
  intro i
  rcases Nat.lt_or_ge i (W * H) with hi | hi
  · rw [grid_at W H _ i hi]
    have e : i / W * W + i % W = i := by rw [Nat.mul_comm]; exact Nat.div_add_mod i W
    unfold pix
    rw [e, List.getD_eq_getElem?_getD, List.getElem?_eq_getElem (by omega)]
    rfl
  · rw [List.getElem?_eq_none (by rw [grid_length]; exact hi), List.getElem?_eq_none (by omega)]
theorem grid_vix (W H : Nat) (zs : List Int) (h : zs.length = W * H) : grid W H (vix zs W) = zs := by
  apply List.ext_getElem?
  intro i
  rcases Nat.lt_or_ge i (W * H) with hi | hi
  · rw [grid_at W H _ i hi]
    have e : i / W * W + i % W = i := by rw [Nat.mul_comm]; exact Nat.div_add_mod i W
    unfold vix valOf
    rw [e, List.getD_eq_getElem?_getD, List.getElem?_eq_getElem (by omega)]
    rfl
  · rw [List.getElem?_eq_none (by rw [grid_length]; exact hi), List.getElem?_eq_none (by omega)]

theorem Reads.vplace {w : World} {A : Option Addr} {W H : Nat} {zs : List Int} (h : Reads w 1 A (W * H) (zs.map (.int .u8))) {x y : Nat} (hx : x < W) (hy : y < H) :
    ∃ ad, A = some ad ∧ w.cell? (ad.add (y * W + x)) = some (.int .u8 (vix zs W x y)) := by
  have hk := place_lt hx hy
  obtain ⟨ad, u, e, hu, hc⟩ := h.at_ hk
  refine ⟨ad, e, ?_⟩
  have hl : y * W + x < zs.length := by have := h.1; simp at this; omega
  have hu' : u = .int .u8 (vix zs W x y) := by simpa [vix, valOf, List.getD, hl] using hu.symm
  rw [hc, hu']

/-! ### turned by quarters -/
def tW (k W H : Nat) : Nat := if k = 1 ∨ k = 3 then H else W
def tH (k W H : Nat) : Nat := if k = 1 ∨ k = 3 then W else H
def tF {α : Type} (f : Nat → Nat → α) (k W H x y : Nat) : α :=
  if k = 1 then f y (H - 1 - x) else if k = 2 then f (W - 1 - x) (H - 1 - y) else if k = 3 then f (W - 1 - y) x else f x y
theorem tF_succ {α : Type} (f : Nat → Nat → α) (k W H x y : Nat) (hk : k < 3) (hx : x < tW (k + 1) W H) (hy : y < tH (k + 1) W H) : tF f k W H y (tH k W H - 1 - x) = tF f (k + 1) W H x y := by
  have : k = 0 ∨ k = 1 ∨ k = 2 := by omega
  rcases this with rfl | rfl | rfl
  · simp [tF, tH]
  · simp [tF, tH]
  · simp [tW, tH] at hx hy
    simp only [tF, tH]
    simp
    rw [show H - 1 - (H - 1 - x) = x by omega]
theorem t_size (k W H : Nat) : tW k W H * tH k W H = W * H := by
  unfold tW tH
  split <;> simp [Nat.mul_comm]
theorem tW_succ (k W H : Nat) (hk : k < 3) : tW (k + 1) W H = tH k W H ∧ tH (k + 1) W H = tW k W H := by
  have : k = 0 ∨ k = 1 ∨ k = 2 := by omega
  rcases this with rfl | rfl | rfl <;> simp [tW, tH]
theorem t_in (k W H x y : Nat) (hx : x < tW k W H) (hy : y < tH k W H) : tF (fun x y => y * W + x) k W H x y < W * H := by
  unfold tW at hx
  unfold tH at hy
  unfold tF
  split
  · rename_i h
    rw [if_pos (Or.inl h)] at hx hy
    exact place_lt (W := W) (H := H) (x := y) (y := H - 1 - x) hy (by omega)
  · split
    · rename_i h1 h
      subst h
      simp at hx hy
      exact place_lt (W := W) (H := H) (x := W - 1 - x) (y := H - 1 - y) (by omega) (by omega)
    · split
      · rename_i h1 h2 h
        subst h
        simp at hx hy
        exact place_lt (W := W) (H := H) (x := W - 1 - y) (y := x) (by omega) hx
      · rename_i h1 h2 h3
        rw [if_neg (by omega)] at hx hy
        exact place_lt hx hy
def quarter (q : Int) : Nat := (q % 4).toNat
theorem quarter_lt (q : Int) : quarter q < 4 := by unfold quarter; omega

theorem Res.store {B : Nat} {w : World} {err : Int} {W H : Nat} {cells : List Value} {a b : Int} {R : Option Addr} {m c : Nat} (h : Res B w err W H cells a b R m c) {p : Addr} (hp : p.block < B) (u : Value) : Res B (w.setCell p u) err W H cells a b R m c :=
  ⟨fun e => (h.1 e).store hp u, h.2⟩

end Go.Proofs.YtjelhdpcaileiaaDoor


/-! The plain law of fonts: what is wrong with one; how letters lie in memory. -/
namespace Go.Proofs.YtjelhdpcaileiaaDoor
open Go.RowKit

/-- A letter: its text, its page's size, where the page's pixels lie, and what they are. -/
structure Ltr where
  text : List UInt8
  W : Int
  H : Int
  A : Option Addr
  m : Nat
  c : Nat
  bs : List Bool
def Ltr.cells (l : Ltr) : List Value := [.string ⟨l.text.toArray⟩, .int .i64 l.W, .int .i64 l.H, .slice l.A l.m l.c]
def ltrCells (ls : List Ltr) : List Value := ls.flatMap Ltr.cells
theorem ltrCells_len (ls : List Ltr) : (ltrCells ls).length = ls.length * 4 := by
  unfold ltrCells
  induction ls with
  | nil => rfl
  | cons l ls ih =>
    rw [List.flatMap_cons, List.length_append, ih, List.length_cons]
    show 4 + ls.length * 4 = (ls.length + 1) * 4
    omega
theorem ltrCells_append (a b : List Ltr) : ltrCells (a ++ b) = ltrCells a ++ ltrCells b := by unfold ltrCells; rw [List.flatMap_append]
theorem ltrCells_at {ls : List Ltr} {i : Nat} {l : Ltr} (h : ls[i]? = some l) (j : Nat) (hj : j < 4) : (ltrCells ls)[i * 4 + j]? = l.cells[j]? := by
  induction ls generalizing i with
  | nil => simp at h
  | cons x ls ih =>
    unfold ltrCells
    rw [List.flatMap_cons]
    rcases i with _ | i
    · simp only [List.getElem?_cons_zero, Option.some.injEq] at h
      subst h
      rw [List.getElem?_append_left (by show 0 * 4 + j < 4; omega)]
      simp
    · rw [List.getElem?_append_right (by show 4 ≤ (i + 1) * 4 + j; omega)]
      have e : (i + 1) * 4 + j - x.cells.length = i * 4 + j := by
        show (i + 1) * 4 + j - 4 = i * 4 + j
        omega
      rw [e]
      exact ih (by simpa using h)
/-- The letters lie there. -/
def LtrsAt (w : World) (L : Option Addr) (ls : List Ltr) : Prop := Reads w 4 L ls.length (ltrCells ls) ∧ ∀ l ∈ ls, Reads w 1 l.A l.m (l.bs.map .bool) ∧ l.text.length ≤ 9223372036854775807
theorem LtrsAt.bl {w w' : World} {L : Option Addr} {ls : List Ltr} (h : LtrsAt w L ls) (hb : Bl w w') : LtrsAt w' L ls := ⟨h.1.bl hb, fun l hl => ⟨(h.2 l hl).1.bl hb, (h.2 l hl).2⟩⟩
theorem LtrsAt.at_ {w : World} {L : Option Addr} {ls : List Ltr} {i : Nat} {l : Ltr} (h : LtrsAt w L ls) (hi : ls[i]? = some l) : ∃ ad, L = some ad ∧ w.cell? (ad.add (i * 4)) = some (.string ⟨l.text.toArray⟩) ∧ w.cell? ⟨(ad.add (i * 4)).block, (ad.add (i * 4)).off + 1, none⟩ = some (.int .i64 l.W) ∧
    w.cell? ⟨(ad.add (i * 4)).block, (ad.add (i * 4)).off + 2, none⟩ = some (.int .i64 l.H) ∧ w.cell? ⟨(ad.add (i * 4)).block, (ad.add (i * 4)).off + 3, none⟩ = some (.slice l.A l.m l.c) := by
  have hlt : i < ls.length := (List.getElem?_eq_some_iff.1 hi).1
  obtain ⟨ad, e, hc⟩ := h.1.2 (by omega)
  have key : ∀ j v, j < 4 → l.cells[j]? = some v → w.cell? ((ad.add (i * 4)).add j) = some v := fun j v hj hv => by
    rw [add_of_add]
    exact hc _ _ (by rw [ltrCells_at hi j hj]; exact hv)
  have k0 := key 0 _ (by omega) rfl
  have k1 := key 1 _ (by omega) rfl
  have k2 := key 2 _ (by omega) rfl
  have k3 := key 3 _ (by omega) rfl
  rw [Addr.add_zero'] at k0
  rw [Addr.add_succ'] at k1 k2 k3
  exact ⟨ad, e, k0, k1, k2, k3⟩
theorem LtrsAt.take {w : World} {L : Option Addr} {ls : List Ltr} (h : LtrsAt w L ls) (i : Nat) (hi : i ≤ ls.length) : LtrsAt w L (ls.take i) := by
  have hl : (ls.take i).length = i := by simp; omega
  refine ⟨⟨ltrCells_len _, fun hn => ?_⟩, fun l hm => h.2 l (List.mem_of_mem_take hm)⟩
  obtain ⟨ad, e, hc⟩ := h.1.2 (by omega)
  refine ⟨ad, e, fun j u hj => hc j u ?_⟩
  have e2 : ltrCells ls = ltrCells (ls.take i) ++ ltrCells (ls.drop i) := by rw [← ltrCells_append, List.take_append_drop]
  rw [e2, List.getElem?_append_left (List.getElem?_eq_some_iff.1 hj).1]
  exact hj

/-! ### what is wrong -/
def textB (l : List UInt8) : Bool := decide (∀ b ∈ l, 33 ≤ b.toNat ∧ b.toNat ≤ 126) && decide (1 ≤ l.length ∧ l.length ≤ 4)
/-- Does some column have no ink? -/
def bareB (bs : List Bool) (W H : Nat) : Bool := decide (∃ x, x < W ∧ colN bs W H x = 0)
def ltrErr (ht : Int) (prev : List (List UInt8)) (l : Ltr) : Int :=
  firstNZ [whenI (!textB l.text) 2, whenI (decide (l.text ∈ prev)) 6, pageErr l.W l.H l.m, whenI (l.H != ht) 11, whenI (decide (64 < l.W)) 4, whenI (bareB l.bs l.W.toNat l.H.toNat) 2]
def ltrsErr (ht : Int) : List (List UInt8) → List Ltr → Int
  | _, [] => 0
  | prev, l :: ls => if ltrErr ht prev l = 0 then ltrsErr ht (prev ++ [l.text]) ls else ltrErr ht prev l
theorem ltrsErr_go {ht : Int} {prev : List (List UInt8)} {l : Ltr} {ls : List Ltr} (h : ltrErr ht prev l = 0) : ltrsErr ht prev (l :: ls) = ltrsErr ht (prev ++ [l.text]) ls := by
  show (if ltrErr ht prev l = 0 then _ else _) = _
  rw [if_pos h]
theorem ltrsErr_stop {ht : Int} {prev : List (List UInt8)} {l : Ltr} {ls : List Ltr} (h : ltrErr ht prev l ≠ 0) : ltrsErr ht prev (l :: ls) = ltrErr ht prev l := by
  show (if ltrErr ht prev l = 0 then _ else _) = _
  rw [if_neg h]
def rangeB (ht gap sp : Int) : Bool := inB ht 1 64 && (inB gap 1 16 && inB sp 1 64)
def fontHead (nm : Bool) (ht gap sp : Int) (n : Nat) : Int := firstNZ [whenI (!nm) 5, whenI (!rangeB ht gap sp) 3, whenI (decide (sp ≤ gap)) 7, whenI (decide (n = 0)) 9, whenI (decide (200 < n)) 4]
def fontErr (nm : Bool) (ht gap sp : Int) (ls : List Ltr) : Int := if fontHead nm ht gap sp ls.length = 0 then ltrsErr ht [] ls else fontHead nm ht gap sp ls.length
/-- What is left of the letters, from the i-th on. -/
theorem ltrsErr_from {ht : Int} {ls : List Ltr} {i : Nat} {l : Ltr} (h : ls[i]? = some l) : ltrsErr ht ((ls.take i).map Ltr.text) (ls.drop i) = if ltrErr ht ((ls.take i).map Ltr.text) l = 0 then ltrsErr ht ((ls.take (i + 1)).map Ltr.text) (ls.drop (i + 1)) else ltrErr ht ((ls.take i).map Ltr.text) l := by
  have hlt : i < ls.length := (List.getElem?_eq_some_iff.1 h).1
  have e : ls.drop i = l :: ls.drop (i + 1) := by
    rw [List.drop_eq_getElem_cons hlt]
    congr 1
    exact (List.getElem?_eq_some_iff.1 h).2
  have e2 : ls.take (i + 1) = ls.take i ++ [l] := by rw [List.take_add_one, h]; rfl
  rw [e, e2, List.map_append]
  rfl

end Go.Proofs.YtjelhdpcaileiaaDoor


/-! The plain law of distances of shapes: pixels that differ are all ink but twice what meets. -/
namespace Go.Proofs.YtjelhdpcaileiaaDoor
open Go.RowKit

/-! ### sums over windows -/
def winN (f : Int → Nat) (lo : Int) (n : Nat) : Nat := sumN (fun i => f (lo + (i : Int))) n
theorem winN_congr {f g : Int → Nat} {lo : Int} {n : Nat} (h : ∀ i : Nat, i < n → f (lo + (i : Int)) = g (lo + (i : Int))) : winN f lo n = winN g lo n := sumN_congr h
theorem winN_succ (f : Int → Nat) (lo : Int) (n : Nat) : winN f lo (n + 1) = winN f lo n + f (lo + (n : Int)) := rfl
theorem winN_split (f : Int → Nat) (lo : Int) (a b : Nat) : winN f lo (a + b) = winN f lo a + winN f (lo + (a : Int)) b := by
  unfold winN
  rw [sumN_split]
  congr 1
  refine sumN_congr fun i _ => ?_
  congr 1
  omega
theorem winN_none {f : Int → Nat} {lo : Int} {n : Nat} (h : ∀ i : Nat, i < n → f (lo + (i : Int)) = 0) : winN f lo n = 0 := (sumN_congr h).trans (sumN_zero n)
theorem winN_sub {f : Int → Nat} {lo p : Int} {n m : Nat} (h1 : lo ≤ p) (h2 : p + (m : Int) ≤ lo + (n : Int)) (h : ∀ z, z < p ∨ p + (m : Int) ≤ z → f z = 0) : winN f lo n = winN f p m := by
  obtain ⟨a, rfl⟩ : ∃ a : Nat, p = lo + (a : Int) := ⟨(p - lo).toNat, by omega⟩
  obtain ⟨b, rfl⟩ : ∃ b : Nat, n = a + (m + b) := ⟨n - a - m, by omega⟩
  rw [winN_split, winN_split, winN_none (n := a) (fun i hi => h _ (by omega)), winN_none (n := b) (fun i hi => h _ (by omega))]
  omega
theorem winN_shift (f : Int → Nat) (d lo : Int) (n : Nat) : winN (fun z => f (z - d)) lo n = winN f (lo - d) n := by
  refine sumN_congr fun i _ => ?_
  show f (lo + (i : Int) - d) = f (lo - d + (i : Int))
  congr 1
  omega
theorem winN_add (f g : Int → Nat) (lo : Int) (n : Nat) : winN (fun z => f z + g z) lo n = winN f lo n + winN g lo n := sumN_add _ _ n
def win2 (F : Int → Int → Nat) (x0 : Int) (nx : Nat) (y0 : Int) (ny : Nat) : Nat := winN (fun y => winN (fun x => F x y) x0 nx) y0 ny
theorem win2_add (F G : Int → Int → Nat) (x0 : Int) (nx : Nat) (y0 : Int) (ny : Nat) : win2 (fun x y => F x y + G x y) x0 nx y0 ny = win2 F x0 nx y0 ny + win2 G x0 nx y0 ny := by
  unfold win2
  rw [← winN_add]
  exact winN_congr fun i _ => winN_add _ _ _ _
theorem win2_sub {F : Int → Int → Nat} {x0 y0 px py : Int} {nx ny mx my : Nat} (h1 : x0 ≤ px) (h2 : px + (mx : Int) ≤ x0 + (nx : Int)) (h3 : y0 ≤ py) (h4 : py + (my : Int) ≤ y0 + (ny : Int))
    (h : ∀ x y, (x < px ∨ px + (mx : Int) ≤ x) ∨ (y < py ∨ py + (my : Int) ≤ y) → F x y = 0) : win2 F x0 nx y0 ny = win2 F px mx py my := by
  unfold win2
  refine (winN_sub h3 h4 (fun y hy => winN_none fun i _ => h (x0 + (i : Int)) y (.inr hy))).trans ?_
  exact winN_congr fun i _ => winN_sub h1 h2 fun x hx => h _ _ (.inl hx)
theorem win2_shift (F : Int → Int → Nat) (dx dy x0 y0 : Int) (nx ny : Nat) : win2 (fun x y => F (x - dx) (y - dy)) x0 nx y0 ny = win2 F (x0 - dx) nx (y0 - dy) ny := by
  unfold win2
  have e : (fun y => winN (fun x => F (x - dx) (y - dy)) x0 nx) = fun y => (fun z => winN (fun x => F x z) (x0 - dx) nx) (y - dy) := by
    funext y
    exact winN_shift (fun x => F x (y - dy)) dx x0 nx
  rw [e, winN_shift (fun z => winN (fun x => F x z) (x0 - dx) nx)]
theorem win2_congr {F G : Int → Int → Nat} {x0 : Int} {nx : Nat} {y0 : Int} {ny : Nat} (h : ∀ x y, F x y = G x y) : win2 F x0 nx y0 ny = win2 G x0 nx y0 ny := by
  unfold win2
  exact winN_congr fun i _ => winN_congr fun j _ => h _ _
theorem winN_le {f : Int → Nat} {c : Nat} (h : ∀ z, f z ≤ c) (lo : Int) (n : Nat) : winN f lo n ≤ n * c := sumN_le (fun _ => h _) n
theorem win2_le {F : Int → Int → Nat} (h : ∀ x y, F x y ≤ 1) (x0 : Int) (nx : Nat) (y0 : Int) (ny : Nat) : win2 F x0 nx y0 ny ≤ ny * nx := by
  unfold win2
  refine winN_le (c := nx) (fun y => ?_) y0 ny
  have := winN_le (c := 1) (fun x => h x y) x0 nx
  omega

/-! ### two shapes -/
/-- What lies outside has no ink. -/
def Held (A : Int → Int → Bool) (W H : Nat) : Prop := ∀ x y, A x y = true → 0 ≤ x ∧ x < (W : Int) ∧ 0 ≤ y ∧ y < (H : Int)
def inkA (A : Int → Int → Bool) (W H : Nat) : Nat := win2 (fun x y => b1 (A x y)) 0 W 0 H
def overN (lo hi : Int) : Nat := (hi - lo).toNat
/-- What meets, the second shape being moved. -/
def bothN (A B : Int → Int → Bool) (W H W' H' : Nat) (dx dy : Int) : Nat :=
  win2 (fun x y => b1 (A x y && B (x - dx) (y - dy))) (max 0 dx) (overN (max 0 dx) (min (W : Int) ((W' : Int) + dx))) (max 0 dy) (overN (max 0 dy) (min (H : Int) ((H' : Int) + dy)))
/-- What differs. -/
def diffN (A B : Int → Int → Bool) (W H W' H' r : Nat) (dx dy : Int) : Nat :=
  win2 (fun x y => b1 (A x y != B (x - dx) (y - dy))) (-(r : Int)) (max W W' + 2 * r) (-(r : Int)) (max H H' + 2 * r)
theorem held0 {A : Int → Int → Bool} {W H : Nat} (h : Held A W H) {x y : Int} (hn : ¬ (0 ≤ x ∧ x < (W : Int) ∧ 0 ≤ y ∧ y < (H : Int))) : A x y = false := by
  cases he : A x y
  · rfl
  · exact absurd (h x y he) hn
theorem diff_both {A B : Int → Int → Bool} {W H W' H' r : Nat} {dx dy : Int} (hA : Held A W H) (hB : Held B W' H') (h1 : -(r : Int) ≤ dx) (h2 : dx ≤ (r : Int)) (h3 : -(r : Int) ≤ dy) (h4 : dy ≤ (r : Int)) :
    diffN A B W H W' H' r dx dy + 2 * bothN A B W H W' H' dx dy = inkA A W H + inkA B W' H' := by
  have e1 : bothN A B W H W' H' dx dy = win2 (fun x y => b1 (A x y && B (x - dx) (y - dy))) (-(r : Int)) (max W W' + 2 * r) (-(r : Int)) (max H H' + 2 * r) := by
    unfold bothN overN
    refine (win2_sub (by omega) (by omega) (by omega) (by omega) fun x y hxy => ?_).symm
    cases ha : A x y
    · rfl
    · cases hb : B (x - dx) (y - dy)
      · rfl
      · have a := hA x y ha
        have b := hB _ _ hb
        omega
  have e2 : inkA A W H = win2 (fun x y => b1 (A x y)) (-(r : Int)) (max W W' + 2 * r) (-(r : Int)) (max H H' + 2 * r) := by
    unfold inkA
    refine (win2_sub (by omega) (by omega) (by omega) (by omega) fun x y hxy => ?_).symm
    rw [held0 hA (by omega)]
    rfl
  have e3 : inkA B W' H' = win2 (fun x y => b1 (B (x - dx) (y - dy))) (-(r : Int)) (max W W' + 2 * r) (-(r : Int)) (max H H' + 2 * r) := by
    rw [win2_shift (fun x y => b1 (B x y))]
    unfold inkA
    refine (win2_sub (by omega) (by omega) (by omega) (by omega) fun x y hxy => ?_).symm
    rw [held0 hB (by omega)]
    rfl
  rw [e1, e2, e3, ← win2_add, Nat.two_mul]
  unfold diffN
  rw [← win2_add, ← win2_add]
  refine win2_congr fun x y => ?_
  cases A x y <;> cases B (x - dx) (y - dy) <;> rfl

/-! ### the best of all shifts -/
def mostN (f : Nat → Nat) : Nat → Nat
  | 0 => 0
  | n + 1 => max (mostN f n) (f n)
theorem mostN_le {f : Nat → Nat} {c n : Nat} (h : ∀ i, i < n → f i ≤ c) : mostN f n ≤ c := by
  induction n with
  | zero => exact Nat.zero_le _
  | succ n ih =>
    have a := ih fun i hi => h i (by omega)
    have b := h n (by omega)
    show max (mostN f n) (f n) ≤ c
    omega
/-- The shift of that number: rows of 2 r + 1. -/
def shiftX (r i : Nat) : Int := ((i % (2 * r + 1) : Nat) : Int) - (r : Int)
def shiftY (r i : Nat) : Int := ((i / (2 * r + 1) : Nat) : Int) - (r : Int)
def shifted (A B : Int → Int → Bool) (W H W' H' r i : Nat) : Nat := bothN A B W H W' H' (shiftX r i) (shiftY r i)
/-- How far two shapes are from each other. -/
def farN (A B : Int → Int → Bool) (W H W' H' r : Nat) : Int := (inkA A W H : Int) + (inkA B W' H' : Int) - 2 * (mostN (shifted A B W H W' H' r) ((2 * r + 1) * (2 * r + 1)) : Int)
/-- The least of what differs, so far. -/
theorem least_step {T n b m : Nat} {l : Int} (hn : n + 2 * b = T) (hl : l = -1 ∧ m = 0 ∨ l = (T : Int) - 2 * (m : Int)) (hm : 2 * m ≤ T) : (if l < 0 ∨ (n : Int) < l then (n : Int) else l) = (T : Int) - 2 * ((max m b : Nat) : Int) := by
  rcases hl with ⟨rfl, rfl⟩ | rfl
  · rw [if_pos (.inl (by decide))]
    omega
  · split
    · rename_i h
      omega
    · rename_i h
      omega

end Go.Proofs.YtjelhdpcaileiaaDoor


/-! glyph.distance. -/
namespace Go.Proofs.YtjelhdpcaileiaaDoor
open Go.RowKit

/-- A page's pixels. -/
def inkF (bs : List Bool) (W H : Nat) (x y : Int) : Bool := atI bs W H x y
theorem inkF_held (bs : List Bool) (W H : Nat) : Held (inkF bs W H) W H := fun x y h => by
  unfold inkF atI at h
  rw [Bool.and_eq_true] at h
  exact of_decide_eq_true h.1
theorem inkF_at (bs : List Bool) (W H x y : Nat) (hx : x < W) (hy : y < H) : inkF bs W H x y = bs.getD (y * W + x) false := atI_in bs W H x y hx hy
/-- The pixels that have ink, one behind the other. -/
def tally (bs : List Bool) (n : Nat) : Nat := sumN (fun i => b1 (bs.getD i false)) n
theorem tally_succ (bs : List Bool) (n : Nat) : tally bs (n + 1) = tally bs n + b1 (bs.getD n false) := rfl
theorem tally_le (bs : List Bool) (n : Nat) : tally bs n ≤ n := by
  have := sumN_le (f := fun i => b1 (bs.getD i false)) (c := 1) (fun _ => b1_le _) n
  simpa [tally] using this
theorem tally_ink (bs : List Bool) (W H : Nat) : tally bs (W * H) = inkA (inkF bs W H) W H := by
  unfold tally inkA win2 winN
  rw [Nat.mul_comm, sumN_flat]
  refine sumN_congr fun y hy => sumN_congr fun x hx => ?_
  rw [show (0 : Int) + (x : Int) = (x : Int) by omega, show (0 : Int) + (y : Int) = (y : Int) by omega]
  show b1 (bs.getD (y * W + x) false) = b1 (inkF bs W H x y)
  rw [inkF_at bs W H x y hx hy]
theorem shifted_le (A B : Int → Int → Bool) (W H W' H' r i : Nat) : shifted A B W H W' H' r i ≤ H * W := by
  unfold shifted bothN
  refine Nat.le_trans (win2_le (fun x y => b1_le _) _ _ _ _) ?_
  refine Nat.mul_le_mul ?_ ?_ <;> (unfold overN; omega)
theorem most_shift_le (A B : Int → Int → Bool) (W H W' H' r n : Nat) : mostN (shifted A B W H W' H' r) n ≤ H * W := mostN_le fun i _ => shifted_le A B W H W' H' r i
theorem shift_at (r i j : Nat) (hj : j < 2 * r + 1) : shiftX r (i * (2 * r + 1) + j) = (j : Int) - (r : Int) ∧ shiftY r (i * (2 * r + 1) + j) = (i : Int) - (r : Int) := by
  unfold shiftX shiftY
  have e1 : (i * (2 * r + 1) + j) % (2 * r + 1) = j := by rw [Nat.mul_comm, Nat.mul_add_mod, Nat.mod_eq_of_lt hj]
  have e2 : (i * (2 * r + 1) + j) / (2 * r + 1) = i := by rw [Nat.mul_comm, Nat.mul_add_div (by omega), Nat.div_eq_of_lt hj, Nat.add_zero]
  rw [e1, e2]
  exact ⟨rfl, rfl⟩

end Go.Proofs.YtjelhdpcaileiaaDoor
