/- Whether two pages are the same; pages without anything; 'small'. -/
import Derived.Test.YtecfjdladcmhjaaDoorMade
namespace Go.Proofs.YtecfjdladcmhjaaDoor
open Go.RowKit

theorem eq_of_cells {α : Type} (xs ys : List α) (hl : xs.length = ys.length) (h : ∀ j, j < xs.length → xs[j]? = ys[j]?) : xs = ys := by
  apply List.ext_getElem?
  intro i
  rcases Nat.lt_or_ge i xs.length with hi | hi
  · exact h i hi
  · rw [List.getElem?_eq_none hi, List.getElem?_eq_none (by omega)]

def smallB (W H : Int) : Bool := decide (0 ≤ W ∧ W ≤ 200 ∧ 0 ≤ H ∧ H ≤ 200 ∧ W * H ≤ 10000)

set_option maxHeartbeats 400000 in
theorem small_any (W H : Int) (w : World) : Calls Tryd.prog 48 #[.int .i64 W, .int .i64 H] w fun e w' => e = .returned (.bool (smallB W H)) ∧ w = w' := by
  cases h1 : inB W 0 200 <;> cases h2 : inB H 0 200
  case true.true =>
    have a := inB_true.1 h1
    have b := inB_true.1 h2
    have m1 := Int.mul_nonneg a.1 b.1
    have m2 := Int.mul_le_mul a.2 b.2 b.1 (by omega)
    have hs : smallB W H = decide (W * H ≤ 10000) := by unfold smallB; simp [a, b]
    have Hs := Lib.hid hs; clear hs
    go_enter Tryd.func48, Tryd.ntmps48
    go_wp2_with (go_at_call 46; refine (in_any _ _ _ _).mono ?_; rintro e w' ⟨rfl, rfl⟩)
    go_ret
    exact ⟨ret_bool Hs.out.symm, rfl⟩
  all_goals
    have hs : smallB W H = false := by
      unfold smallB
      simp only [decide_eq_false_iff_not]
      intro h
      first
        | (have := inB_false.1 h1; omega)
        | (have := inB_false.1 h2; omega)
    have Hs := Lib.hid hs; clear hs
    go_enter Tryd.func48, Tryd.ntmps48
    go_wp2_with (go_at_call 46; refine (in_any _ _ _ _).mono ?_; rintro e w' ⟨rfl, rfl⟩)
    go_ret
    exact ⟨ret_bool Hs.out.symm, rfl⟩

/-! ### slices.Equal at bool -/
set_option maxRecDepth 100000 in
set_option maxHeartbeats 400000 in
theorem equalBits_any (A B : Option Addr) (c d : Nat) (xs ys : List Bool) (w : World) (hx : Reads w 1 A xs.length (xs.map Value.bool)) (hy : Reads w 1 B ys.length (ys.map Value.bool)) (hl : xs.length ≤ 1099511627776) :
    Calls Tryd.prog 113 #[.slice A xs.length c, .slice B ys.length d] w fun e w' => e = .returned (.bool (decide (xs = ys))) ∧ Bl w w' := by
  by_cases hlen : xs.length = ys.length
  · have hne : ((xs.length : Int) != (ys.length : Int)) = false := by simp [hlen]
    have hne2 : (xs.length != ys.length) = false := by simp [hlen]
    have Hlen := Lib.hid hlen; clear hlen
    go_enter Tryd.func113, Tryd.ntmps113
    go_wp2
    go_loopw [13] (fun v wr => ∃ k : Nat, k ≤ xs.length ∧ v = .int .i64 k ∧ Hid (∀ j, j < k → xs[j]? = ys[j]?) ∧ Bl w wr) (fun v _ => xs.length - (intOf v).toNat)
    case atStart => exact ⟨0, Nat.zero_le _, rfl, fun j hj => absurd hj (by omega), Bl.refl _⟩
    case round =>
      obtain ⟨k, hk, rfl, hz, hbr⟩ := hrel
      by_cases hlt : k < xs.length
      · have hlt' : k < ys.length := by have := Hlen.out; omega
        obtain ⟨ad, u, rfl, hu, hc⟩ := (hx.bl hbr).at_ hlt
        obtain ⟨bd, t, rfl, ht, hd⟩ := (hy.bl hbr).at_ hlt'
        have hu' : u = Value.bool xs[k] := by simpa [hlt] using hu.symm
        have ht' : t = Value.bool ys[k] := by simpa [hlt'] using ht.symm
        subst hu' ht'
        have Hx := Lib.hid hx; have Hy := Lib.hid hy
        clear hx hy hu ht
        have i1 : (k : Int) < (xs.length : Int) := by omega
        have i2 : (k : Int) < (ys.length : Int) := by omega
        by_cases h0 : xs[k] = ys[k]
        · have hb : (xs[k] != ys[k]) = false := by simp [h0]
          have hzz : Hid (∀ j, j < k + 1 → xs[j]? = ys[j]?) := fun j hj => by
            rcases Nat.lt_or_ge j k with h | h
            · exact hz.out j h
            · obtain rfl : j = k := by omega
              simp [hlt, hlt', h0]
          generalize xs[k] = xk at *
          generalize ys[k] = yk at *
          subst h0
          clear hb
          cases xk
          all_goals
            go_wp2
            refine wp_region_flow [(true, 0), (true, 1), (true, 2), (true, 3), (true, 4), (true, 5), (true, 6), (true, 7), (true, 8)] (fun _ => false) (by kernel_rfl) (by kernel_rfl) (by kernel_rfl) (by kernel_rfl) ?_
            iterate 2
              apply Flow.mv _ rfl
              · intro K' hK'
                simp only [Act.put, Act.eval, List.setIfInBounds_toArray, List.set_cons_zero, List.set_cons_succ, arr_getD, List.getD_cons_zero, List.getD_cons_succ]
                exact hK'
            iterate 1
              apply Flow.calm2 _ _ rfl rfl
              · intro w' hb' K' hK'
                obtain ⟨hc', hf'⟩ := hb'.rule
                go_simp
                try go_ints
                exact hK'
              · intro K' hK'
                simp only [Act.put, List.setIfInBounds_toArray, List.set_cons_zero, List.set_cons_succ]
                exact hK'
            iterate 1
              apply Flow.calm2 _ _ rfl rfl
              · intro w' hb' K' hK'
                obtain ⟨hc', hf'⟩ := hb'.rule
                go_simp
                try go_ints
                exact hK'
              · intro K' hK'
                simp only [Act.put, List.setIfInBounds_toArray, List.set_cons_zero, List.set_cons_succ]
                exact hK'
            iterate 2
              apply Flow.mv _ rfl
              · intro K' hK'
                simp only [Act.put, Act.eval, List.setIfInBounds_toArray, List.set_cons_zero, List.set_cons_succ, arr_getD, List.getD_cons_zero, List.getD_cons_succ]
                exact hK'
            iterate 1
              apply Flow.calm2 _ _ rfl rfl
              · intro w' hb' K' hK'
                obtain ⟨hc', hf'⟩ := hb'.rule
                go_simp
                try go_ints
                exact hK'
              · intro K' hK'
                simp only [Act.put, List.setIfInBounds_toArray, List.set_cons_zero, List.set_cons_succ]
                exact hK'
            iterate 1
              apply Flow.calm2 _ _ rfl rfl
              · intro w' hb' K' hK'
                obtain ⟨hc', hf'⟩ := hb'.rule
                go_simp
                try go_ints
                exact hK'
              · intro K' hK'
                simp only [Act.put, List.setIfInBounds_toArray, List.set_cons_zero, List.set_cons_succ]
                exact hK'
            iterate 1
              apply Flow.calm2 _ _ rfl rfl
              · intro w' hb' K' hK'
                obtain ⟨hc', hf'⟩ := hb'.rule
                go_simp
                try go_ints
                exact hK'
              · intro K' hK'
                simp only [Act.put, List.setIfInBounds_toArray, List.set_cons_zero, List.set_cons_succ]
                exact hK'
            refine Flow.done ?_
            go_wp2
            exact ⟨⟨k + 1, hlt, by go_num, hzz, hbr.drew⟩, by simp [intOf]; omega⟩
        · have hb : (xs[k] != ys[k]) = true := by simp [h0]
          have hf : ¬ xs = ys := fun e => h0 (by subst e; rfl)
          have H0 := Lib.hid hf; clear hf
          generalize xs[k] = xk at *
          generalize ys[k] = yk at *
          clear hb
          cases xk <;> cases yk <;> first | (exact absurd rfl h0) | clear h0
          all_goals
            go_wp2
            refine wp_region_flow [(true, 0), (true, 1), (true, 2), (true, 3), (true, 4), (true, 5), (true, 6), (true, 7), (true, 8)] (fun _ => false) (by kernel_rfl) (by kernel_rfl) (by kernel_rfl) (by kernel_rfl) ?_
            iterate 2
              apply Flow.mv _ rfl
              · intro K' hK'
                simp only [Act.put, Act.eval, List.setIfInBounds_toArray, List.set_cons_zero, List.set_cons_succ, arr_getD, List.getD_cons_zero, List.getD_cons_succ]
                exact hK'
            iterate 1
              apply Flow.calm2 _ _ rfl rfl
              · intro w' hb' K' hK'
                obtain ⟨hc', hf'⟩ := hb'.rule
                go_simp
                try go_ints
                exact hK'
              · intro K' hK'
                simp only [Act.put, List.setIfInBounds_toArray, List.set_cons_zero, List.set_cons_succ]
                exact hK'
            iterate 1
              apply Flow.calm2 _ _ rfl rfl
              · intro w' hb' K' hK'
                obtain ⟨hc', hf'⟩ := hb'.rule
                go_simp
                try go_ints
                exact hK'
              · intro K' hK'
                simp only [Act.put, List.setIfInBounds_toArray, List.set_cons_zero, List.set_cons_succ]
                exact hK'
            iterate 2
              apply Flow.mv _ rfl
              · intro K' hK'
                simp only [Act.put, Act.eval, List.setIfInBounds_toArray, List.set_cons_zero, List.set_cons_succ, arr_getD, List.getD_cons_zero, List.getD_cons_succ]
                exact hK'
            iterate 1
              apply Flow.calm2 _ _ rfl rfl
              · intro w' hb' K' hK'
                obtain ⟨hc', hf'⟩ := hb'.rule
                go_simp
                try go_ints
                exact hK'
              · intro K' hK'
                simp only [Act.put, List.setIfInBounds_toArray, List.set_cons_zero, List.set_cons_succ]
                exact hK'
            iterate 1
              apply Flow.calm2 _ _ rfl rfl
              · intro w' hb' K' hK'
                obtain ⟨hc', hf'⟩ := hb'.rule
                go_simp
                try go_ints
                exact hK'
              · intro K' hK'
                simp only [Act.put, List.setIfInBounds_toArray, List.set_cons_zero, List.set_cons_succ]
                exact hK'
            iterate 1
              apply Flow.calm2 _ _ rfl rfl
              · intro w' hb' K' hK'
                obtain ⟨hc', hf'⟩ := hb'.rule
                go_simp
                try go_ints
                exact hK'
              · intro K' hK'
                simp only [Act.put, List.setIfInBounds_toArray, List.set_cons_zero, List.set_cons_succ]
                exact hK'
            refine Flow.done ?_
            go_wp2
            go_ret
            exact ⟨ret_bool (by simp [H0.out]), hbr.drew⟩
      · have hf : xs = ys := eq_of_cells xs ys Hlen.out (fun j hj => hz.out j (by omega))
        have Hf := Lib.hid hf; clear hf
        have Hx := Lib.hid hx; have Hy := Lib.hid hy
        clear hx hy
        go_wp2
        go_ret
        exact ⟨ret_bool (by simp [Hf.out]), hbr⟩
  · have hne : ((xs.length : Int) != (ys.length : Int)) = true := by simp; omega
    have hne2 : (xs.length != ys.length) = true := by simp; omega
    have hf : ¬ xs = ys := fun e => hlen (by subst e; rfl)
    have Hf := Lib.hid hf
    clear hlen hx hy hf
    go_enter Tryd.func113, Tryd.ntmps113
    go_wp2
    go_ret
    exact ⟨ret_bool (by simp [Hf.out]), Bl.refl _⟩

/-! The same page. -/
set_option maxRecDepth 100000 in
set_option maxHeartbeats 400000 in
theorem sameBits_any (W H : Nat) (v u : Value) (xs : List Bool) (w : World) (hv : IsPage w v W H (xs.map Value.bool)) (hu : IsPage w u W H (xs.map Value.bool)) (hl : W * H ≤ 1099511627776) :
    Calls Tryd.prog 43 #[v, u] w fun e w' => e = .returned (.bool true) ∧ Bl w w' := by
  obtain ⟨A, c, rfl, hA⟩ := hv
  obtain ⟨B, d, rfl, hB⟩ := hu
  have hn : xs.length = W * H := by have := hA.1; simpa using this
  have heq := fun (w1 : World) (hb : Bl w w1) => equalBits_any A B c d xs xs w1 (by rw [hn]; exact hA.bl hb) (by rw [hn]; exact hB.bl hb) (by omega)
  rw [hn] at heq
  have Heq := Lib.hid heq; clear heq
  have Hn := Lib.hid hn
  clear hA hB hn
  go_enter Tryd.func43, Tryd.ntmps43
  go_wp2_with fail
  refine (Heq.out _ (((Bl.refl _).alloc _).alloc _)).mono ?_
  rintro e w1 ⟨rfl, hb1⟩
  go_wp2_with fail
  go_ret
  exact ⟨ret_bool (by simp), (((Bl.refl _).alloc _).alloc _).trans hb1⟩

/-! Nothing at all. -/
set_option maxRecDepth 100000 in
set_option maxHeartbeats 400000 in
theorem noBits_zero (w : World) : Calls Tryd.prog 21 #[.agg #[.int .i64 0, .int .i64 0, .slice none 0 0]] w fun e w' => e = .returned (.bool true) ∧ Bl w w' := by
  go_enter Tryd.func21, Tryd.ntmps21
  go_wp2
  go_ret
  exact ⟨rfl, (Bl.refl _).alloc _⟩

/-! ### slices.Equal at byte -/
set_option maxRecDepth 100000 in
set_option maxHeartbeats 400000 in
theorem equalGray_any (A B : Option Addr) (c d : Nat) (xs ys : List Int) (w : World) (hx : Reads w 1 A xs.length (xs.map (Value.int .u8))) (hy : Reads w 1 B ys.length (ys.map (Value.int .u8))) (hl : xs.length ≤ 1099511627776) :
    Calls Tryd.prog 107 #[.slice A xs.length c, .slice B ys.length d] w fun e w' => e = .returned (.bool (decide (xs = ys))) ∧ Bl w w' := by
  by_cases hlen : xs.length = ys.length
  · have hne : ((xs.length : Int) != (ys.length : Int)) = false := by simp [hlen]
    have hne2 : (xs.length != ys.length) = false := by simp [hlen]
    have Hlen := Lib.hid hlen; clear hlen
    go_enter Tryd.func107, Tryd.ntmps107
    go_wp2
    go_loopw [13] (fun v wr => ∃ k : Nat, k ≤ xs.length ∧ v = .int .i64 k ∧ Hid (∀ j, j < k → xs[j]? = ys[j]?) ∧ Bl w wr) (fun v _ => xs.length - (intOf v).toNat)
    case atStart => exact ⟨0, Nat.zero_le _, rfl, fun j hj => absurd hj (by omega), Bl.refl _⟩
    case round =>
      obtain ⟨k, hk, rfl, hz, hbr⟩ := hrel
      by_cases hlt : k < xs.length
      · have hlt' : k < ys.length := by have := Hlen.out; omega
        obtain ⟨ad, u, rfl, hu, hc⟩ := (hx.bl hbr).at_ hlt
        obtain ⟨bd, t, rfl, ht, hd⟩ := (hy.bl hbr).at_ hlt'
        have hu' : u = (Value.int .u8) xs[k] := by simpa [hlt] using hu.symm
        have ht' : t = (Value.int .u8) ys[k] := by simpa [hlt'] using ht.symm
        subst hu' ht'
        have Hx := Lib.hid hx; have Hy := Lib.hid hy
        clear hx hy hu ht
        have i1 : (k : Int) < (xs.length : Int) := by omega
        have i2 : (k : Int) < (ys.length : Int) := by omega
        by_cases h0 : xs[k] = ys[k]
        · have hb : (xs[k] != ys[k]) = false := by simp [h0]
          have hzz : Hid (∀ j, j < k + 1 → xs[j]? = ys[j]?) := fun j hj => by
            rcases Nat.lt_or_ge j k with h | h
            · exact hz.out j h
            · obtain rfl : j = k := by omega
              simp [hlt, hlt', h0]
          generalize xs[k] = xk at *
          generalize ys[k] = yk at *
          have H0 := Lib.hid h0; clear h0
          all_goals
            go_wp2
            refine wp_region_flow [(true, 0), (true, 1), (true, 2), (true, 3), (true, 4), (true, 5), (true, 6), (true, 7), (true, 8)] (fun _ => false) (by kernel_rfl) (by kernel_rfl) (by kernel_rfl) (by kernel_rfl) ?_
            iterate 2
              apply Flow.mv _ rfl
              · intro K' hK'
                simp only [Act.put, Act.eval, List.setIfInBounds_toArray, List.set_cons_zero, List.set_cons_succ, arr_getD, List.getD_cons_zero, List.getD_cons_succ]
                exact hK'
            iterate 1
              apply Flow.calm2 _ _ rfl rfl
              · intro w' hb' K' hK'
                obtain ⟨hc', hf'⟩ := hb'.rule
                go_simp
                try go_ints
                exact hK'
              · intro K' hK'
                simp only [Act.put, List.setIfInBounds_toArray, List.set_cons_zero, List.set_cons_succ]
                exact hK'
            iterate 1
              apply Flow.calm2 _ _ rfl rfl
              · intro w' hb' K' hK'
                obtain ⟨hc', hf'⟩ := hb'.rule
                go_simp
                try go_ints
                exact hK'
              · intro K' hK'
                simp only [Act.put, List.setIfInBounds_toArray, List.set_cons_zero, List.set_cons_succ]
                exact hK'
            iterate 2
              apply Flow.mv _ rfl
              · intro K' hK'
                simp only [Act.put, Act.eval, List.setIfInBounds_toArray, List.set_cons_zero, List.set_cons_succ, arr_getD, List.getD_cons_zero, List.getD_cons_succ]
                exact hK'
            iterate 1
              apply Flow.calm2 _ _ rfl rfl
              · intro w' hb' K' hK'
                obtain ⟨hc', hf'⟩ := hb'.rule
                go_simp
                try go_ints
                exact hK'
              · intro K' hK'
                simp only [Act.put, List.setIfInBounds_toArray, List.set_cons_zero, List.set_cons_succ]
                exact hK'
            iterate 1
              apply Flow.calm2 _ _ rfl rfl
              · intro w' hb' K' hK'
                obtain ⟨hc', hf'⟩ := hb'.rule
                go_simp
                try go_ints
                exact hK'
              · intro K' hK'
                simp only [Act.put, List.setIfInBounds_toArray, List.set_cons_zero, List.set_cons_succ]
                exact hK'
            iterate 1
              apply Flow.calm2 _ _ rfl rfl
              · intro w' hb' K' hK'
                obtain ⟨hc', hf'⟩ := hb'.rule
                go_simp
                try go_ints
                exact hK'
              · intro K' hK'
                simp only [Act.put, List.setIfInBounds_toArray, List.set_cons_zero, List.set_cons_succ]
                exact hK'
            refine Flow.done ?_
            go_wp2
            exact ⟨⟨k + 1, hlt, by go_num, hzz, hbr.drew⟩, by simp [intOf]; omega⟩
        · have hb : (xs[k] != ys[k]) = true := by simp [h0]
          have hf : ¬ xs = ys := fun e => h0 (by subst e; rfl)
          have H0 := Lib.hid hf; clear hf
          generalize xs[k] = xk at *
          generalize ys[k] = yk at *
          clear h0
          all_goals
            go_wp2
            refine wp_region_flow [(true, 0), (true, 1), (true, 2), (true, 3), (true, 4), (true, 5), (true, 6), (true, 7), (true, 8)] (fun _ => false) (by kernel_rfl) (by kernel_rfl) (by kernel_rfl) (by kernel_rfl) ?_
            iterate 2
              apply Flow.mv _ rfl
              · intro K' hK'
                simp only [Act.put, Act.eval, List.setIfInBounds_toArray, List.set_cons_zero, List.set_cons_succ, arr_getD, List.getD_cons_zero, List.getD_cons_succ]
                exact hK'
            iterate 1
              apply Flow.calm2 _ _ rfl rfl
              · intro w' hb' K' hK'
                obtain ⟨hc', hf'⟩ := hb'.rule
                go_simp
                try go_ints
                exact hK'
              · intro K' hK'
                simp only [Act.put, List.setIfInBounds_toArray, List.set_cons_zero, List.set_cons_succ]
                exact hK'
            iterate 1
              apply Flow.calm2 _ _ rfl rfl
              · intro w' hb' K' hK'
                obtain ⟨hc', hf'⟩ := hb'.rule
                go_simp
                try go_ints
                exact hK'
              · intro K' hK'
                simp only [Act.put, List.setIfInBounds_toArray, List.set_cons_zero, List.set_cons_succ]
                exact hK'
            iterate 2
              apply Flow.mv _ rfl
              · intro K' hK'
                simp only [Act.put, Act.eval, List.setIfInBounds_toArray, List.set_cons_zero, List.set_cons_succ, arr_getD, List.getD_cons_zero, List.getD_cons_succ]
                exact hK'
            iterate 1
              apply Flow.calm2 _ _ rfl rfl
              · intro w' hb' K' hK'
                obtain ⟨hc', hf'⟩ := hb'.rule
                go_simp
                try go_ints
                exact hK'
              · intro K' hK'
                simp only [Act.put, List.setIfInBounds_toArray, List.set_cons_zero, List.set_cons_succ]
                exact hK'
            iterate 1
              apply Flow.calm2 _ _ rfl rfl
              · intro w' hb' K' hK'
                obtain ⟨hc', hf'⟩ := hb'.rule
                go_simp
                try go_ints
                exact hK'
              · intro K' hK'
                simp only [Act.put, List.setIfInBounds_toArray, List.set_cons_zero, List.set_cons_succ]
                exact hK'
            iterate 1
              apply Flow.calm2 _ _ rfl rfl
              · intro w' hb' K' hK'
                obtain ⟨hc', hf'⟩ := hb'.rule
                go_simp
                try go_ints
                exact hK'
              · intro K' hK'
                simp only [Act.put, List.setIfInBounds_toArray, List.set_cons_zero, List.set_cons_succ]
                exact hK'
            refine Flow.done ?_
            go_wp2
            go_ret
            exact ⟨ret_bool (by simp [H0.out]), hbr.drew⟩
      · have hf : xs = ys := eq_of_cells xs ys Hlen.out (fun j hj => hz.out j (by omega))
        have Hf := Lib.hid hf; clear hf
        have Hx := Lib.hid hx; have Hy := Lib.hid hy
        clear hx hy
        go_wp2
        go_ret
        exact ⟨ret_bool (by simp [Hf.out]), hbr⟩
  · have hne : ((xs.length : Int) != (ys.length : Int)) = true := by simp; omega
    have hne2 : (xs.length != ys.length) = true := by simp; omega
    have hf : ¬ xs = ys := fun e => hlen (by subst e; rfl)
    have Hf := Lib.hid hf
    clear hlen hx hy hf
    go_enter Tryd.func107, Tryd.ntmps107
    go_wp2
    go_ret
    exact ⟨ret_bool (by simp [Hf.out]), Bl.refl _⟩

/-! The same page. -/
set_option maxRecDepth 100000 in
set_option maxHeartbeats 400000 in
theorem sameGray_any (W H : Nat) (v u : Value) (xs : List Int) (w : World) (hv : IsPage w v W H (xs.map (Value.int .u8))) (hu : IsPage w u W H (xs.map (Value.int .u8))) (hl : W * H ≤ 1099511627776) :
    Calls Tryd.prog 32 #[v, u] w fun e w' => e = .returned (.bool true) ∧ Bl w w' := by
  obtain ⟨A, c, rfl, hA⟩ := hv
  obtain ⟨B, d, rfl, hB⟩ := hu
  have hn : xs.length = W * H := by have := hA.1; simpa using this
  have heq := fun (w1 : World) (hb : Bl w w1) => equalGray_any A B c d xs xs w1 (by rw [hn]; exact hA.bl hb) (by rw [hn]; exact hB.bl hb) (by omega)
  rw [hn] at heq
  have Heq := Lib.hid heq; clear heq
  have Hn := Lib.hid hn
  clear hA hB hn
  go_enter Tryd.func32, Tryd.ntmps32
  go_wp2_with fail
  refine (Heq.out _ (((Bl.refl _).alloc _).alloc _)).mono ?_
  rintro e w1 ⟨rfl, hb1⟩
  go_wp2_with fail
  go_ret
  exact ⟨ret_bool (by simp), (((Bl.refl _).alloc _).alloc _).trans hb1⟩

/-! Nothing at all. -/
set_option maxRecDepth 100000 in
set_option maxHeartbeats 400000 in
theorem noGray_zero (w : World) : Calls Tryd.prog 31 #[.agg #[.int .i64 0, .int .i64 0, .slice none 0 0]] w fun e w' => e = .returned (.bool true) ∧ Bl w w' := by
  go_enter Tryd.func31, Tryd.ntmps31
  go_wp2
  go_ret
  exact ⟨rfl, (Bl.refl _).alloc _⟩

/-! ### bitsIs -/
/-- A function value that makes a page. -/
def MakesPage (P : Program) (k : FuncId) (cap : Array Value) (w : World) (W H : Nat) (cells : List Value) : Prop :=
  (∀ args w, (callFunc k args).run P w = .ok (.enter k args) w) ∧ ∀ wx, Bl w wx → Calls P k cap wx fun e w' => ∃ v, e = .returned v ∧ IsPage w' v W H cells ∧ Bl wx w'

set_option maxRecDepth 100000 in
set_option maxHeartbeats 400000 in
theorem bitsIs_bad (want : Int) (f : Value) (w : World) (hw : want ≠ 0) :
    Calls Tryd.prog 24 #[.agg #[.int .i64 0, .int .i64 0, .slice none 0 0], .int .i64 want, .int .i64 want, f] w fun e w' => e = .returned (.bool true) ∧ Bl w w' := by
  have hq : (want != 0) = true := by simp [hw]
  clear hw
  go_enter Tryd.func24, Tryd.ntmps24
  go_wp2_with (go_at_call 21; refine (noBits_zero _).mono ?_; rintro e w1 ⟨rfl, hb1⟩)
  go_ret
  exact ⟨rfl, ((Bl.refl _).alloc _).trans hb1⟩

set_option maxRecDepth 100000 in
set_option maxHeartbeats 400000 in
theorem bitsIs_ok (W H : Nat) (v : Value) (xs : List Bool) (k : FuncId) (cap : Array Value) (w : World) (hv : IsPage w v W H (xs.map .bool)) (hk : MakesPage Tryd.prog k cap w W H (xs.map .bool)) (hl : W * H ≤ 1099511627776) :
    Calls Tryd.prog 24 #[v, .int .i64 0, .int .i64 0, .func (.func k) #[] cap] w fun e w' => e = .returned (.bool true) ∧ Bl w w' := by
  have hent := hk.1
  obtain ⟨A, c, rfl, hA⟩ := id hv
  have Hv := Lib.hid hv
  clear hv hA
  go_enter Tryd.func24, Tryd.ntmps24
  go_wp2_with fail
  refine wp_region_flow [(true, 0), (true, 1), (true, 2), (true, 3), (true, 4), (false, 5), (false, 6), (true, 7), (true, 8)] (fun _ => false) (by kernel_rfl) (by kernel_rfl) (by kernel_rfl) (by kernel_rfl) ?_
  iterate 1
    apply Flow.mv _ rfl
    · intro K' hK'
      simp only [Act.put, Act.eval, List.setIfInBounds_toArray, List.set_cons_zero, List.set_cons_succ, arr_getD, List.getD_cons_zero, List.getD_cons_succ]
      exact hK'
  iterate 1
    apply Flow.calm2 _ _ rfl rfl
    · intro w' hb' K' hK'
      obtain ⟨hc', hf'⟩ := hb'.rule
      go_simp
      try go_ints
      exact hK'
    · intro K' hK'
      simp only [Act.put, List.setIfInBounds_toArray, List.set_cons_zero, List.set_cons_succ]
      exact hK'
  iterate 1
    apply Flow.mv _ rfl
    · intro K' hK'
      simp only [Act.put, Act.eval, List.setIfInBounds_toArray, List.set_cons_zero, List.set_cons_succ, arr_getD, List.getD_cons_zero, List.getD_cons_succ]
      exact hK'
  first
    | (apply Flow.pass rfl (by rfl))
    | (apply Flow.calmG _ rfl (by rfl)
       · intro w' hb'
         obtain ⟨hc', hf'⟩ := hb'.rule
         go_simp
         all_goals (try rfl))
  simp only [Act.put, List.setIfInBounds_toArray, List.set_cons_zero, List.set_cons_succ]
  try go_ints
  first
    | (apply Flow.pass rfl (by rfl))
    | (apply Flow.calmG _ rfl (by rfl)
       · intro w' hb'
         obtain ⟨hc', hf'⟩ := hb'.rule
         go_simp
         all_goals (try rfl))
  simp only [Act.put, List.setIfInBounds_toArray, List.set_cons_zero, List.set_cons_succ]
  try go_ints
  -- a guarded mover
  apply Flow.move rfl
  go_wp2_with fail
  have hk1 := hk.2 _ (((Bl.refl w).alloc (.cells #[.int .i64 W, .int .i64 H, .slice A (W * H) c] 24)).drew)
  refine hk1.mono ?_
  rintro e w1 ⟨u, rfl, hu, HB1⟩
  go_wp2_with fail
  refine ⟨fun _ => (by first | exact HB1 | exact Bl.refl _), ?_⟩
  -- a guarded mover
  apply Flow.move rfl
  go_wp2_with fail
  have hb2 : Bl w w1 := (((Bl.refl w).alloc _).drew).trans HB1
  refine (sameBits_any W H _ u xs w1 (Hv.out.bl hb2) hu hl).mono ?_
  rintro e w2 ⟨rfl, HB2⟩
  go_wp2_with fail
  refine ⟨fun _ => (by first | exact HB2 | exact Bl.refl _), ?_⟩
  iterate 1
    apply Flow.calm2 _ _ rfl rfl
    · intro w' hb' K' hK'
      obtain ⟨hc', hf'⟩ := hb'.rule
      go_simp
      try go_ints
      exact hK'
    · intro K' hK'
      simp only [Act.put, List.setIfInBounds_toArray, List.set_cons_zero, List.set_cons_succ]
      exact hK'
  iterate 1
    apply Flow.asg _ rfl
    · intro K' hK'
      simp only [Act.put, Act.eval, List.setIfInBounds_toArray, List.set_cons_zero, List.set_cons_succ, arr_getD, List.getD_cons_zero, List.getD_cons_succ]
      exact hK'
  refine Flow.done ?_
  go_wp2_with fail
  go_ret
  exact ⟨rfl, hb2.trans HB2⟩

end Go.Proofs.YtecfjdladcmhjaaDoor
