/- What the references' and the program's small functions on numbers and sizes compute. -/
import Derived.Test.YtecfjdladcmhjaaDoorFlow
namespace Go.Proofs.YtecfjdladcmhjaaDoor
open Go.RowKit

/-! ### plain -/
def inB (n lo hi : Int) : Bool := decide (lo ≤ n) && decide (n ≤ hi)
theorem inB_true {n lo hi : Int} : inB n lo hi = true ↔ lo ≤ n ∧ n ≤ hi := by simp [inB]
theorem inB_false {n lo hi : Int} : inB n lo hi = false ↔ n < lo ∨ hi < n := by simp [inB]; omega
def whenI (b : Bool) (e : Int) : Int := if b then e else 0
def sizeErr (W H : Int) : Int := if 1 ≤ W ∧ W ≤ 4000 ∧ 1 ≤ H ∧ H ≤ 4000 then (if W * H > 1048576 then 4 else 0) else 3
def pageErr (W H : Int) (n : Nat) : Int := if sizeErr W H = 0 then (if (n : Int) = W * H then 0 else 2) else sizeErr W H
def firstNZ : List Int → Int
  | [] => 0
  | e :: es => if e = 0 then firstNZ es else e

theorem mul_bd {W H : Int} (h1 : 1 ≤ W) (h2 : W ≤ 4000) (h3 : 1 ≤ H) (h4 : H ≤ 4000) : 1 ≤ W * H ∧ W * H ≤ 16000000 := by
  have a := Int.mul_le_mul h1 h3 (by omega) (by omega)
  have b := Int.mul_le_mul h2 h4 (by omega) (by omega)
  omega

/-! ### bedref2.In, When, First -/
set_option maxHeartbeats 400000 in
theorem in_any (n lo hi : Int) (w : World) :
    Calls Tryd.prog 46 #[.int .i64 n, .int .i64 lo, .int .i64 hi] w fun e w' => e = .returned (.bool (inB n lo hi)) ∧ w = w' := by
  unfold inB
  by_cases h1 : lo ≤ n <;> by_cases h2 : n ≤ hi
  all_goals
    go_enter Tryd.func46, Tryd.ntmps46
    go_wp2
    go_ret
    exact ⟨by simp [*], rfl⟩

set_option maxHeartbeats 400000 in
theorem when_any (b : Bool) (n : Int) (w : World) :
    Calls Tryd.prog 26 #[.bool b, .int .i64 n] w fun e w' => e = .returned (.int .i64 (whenI b n)) ∧ w = w' := by
  unfold whenI
  cases b
  all_goals
    go_enter Tryd.func26, Tryd.ntmps26
    go_wp2
    go_ret
    exact ⟨by simp, rfl⟩

theorem firstNZ_split (es : List Int) (k : Nat) (hk : k < es.length) (h : ∀ j, j < k → es[j]? = some 0) : firstNZ es = firstNZ (es.drop k) := by
  induction k generalizing es with
  | zero => simp
  | succ k ih =>
    cases es with
    | nil => simp at hk
    | cons e es =>
      have h0 := h 0 (by omega)
      simp at h0
      subst h0
      simp only [firstNZ, if_true, List.drop_succ_cons]
      exact ih es (by simpa using hk) (fun j hj => by simpa using h (j+1) (by omega))

set_option maxHeartbeats 400000 in
theorem first_any (A : Option Addr) (c : Nat) (es : List Int) (w : World) (hr : Reads w 1 A es.length (es.map (.int .i64))) (hl : es.length ≤ 1000) :
    Calls Tryd.prog 25 #[.slice A es.length c] w fun e w' => e = .returned (.int .i64 (firstNZ es)) ∧ w = w' := by
  go_enter Tryd.func25, Tryd.ntmps25
  go_wp2
  go_loop [7] (fun v => ∃ k : Nat, k ≤ es.length ∧ v = .int .i64 k ∧ Hid (∀ j, j < k → es[j]? = some 0)) (fun v => es.length - (intOf v).toNat)
  case atStart => exact ⟨0, Nat.zero_le _, rfl, fun j hj => absurd hj (by omega)⟩
  case round =>
    obtain ⟨k, hk, rfl, hz⟩ := hrel
    by_cases hlt : k < es.length
    · obtain ⟨ad, u, rfl, hu, hc⟩ := hr.at_ hlt
      have hu' : u = .int .i64 es[k] := by simpa [hlt] using hu.symm
      subst hu'
      have hd : firstNZ es = if es[k] = 0 then firstNZ (es.drop (k+1)) else es[k] := by
        rw [firstNZ_split es k hlt hz.out, List.drop_eq_getElem_cons hlt]; rfl
      have Hd := Lib.hid hd; clear hd hu
      have Hn := Lib.hid hr; clear hr
      by_cases h0 : es[k] = 0
      · have hzz : Hid (∀ j, j < k + 1 → es[j]? = some 0) := fun j hj => by
          rcases Nat.lt_or_ge j k with h | h
          · exact hz.out j h
          · obtain rfl : j = k := by omega
            simp [hlt, h0]
        go_wp2
        go_round
        case rel => exact ⟨k+1, hlt, by go_num, hzz⟩
        case measure => simp [intOf]; omega
      · have hb : (es[k] != 0) = true := by simpa using h0
        have h0' := Lib.hid h0; clear h0
        go_wp2
        go_ret
        exact ⟨ret_int (by rw [Hd.out, if_neg h0'.out]), rfl⟩
    · have hd : firstNZ es = 0 := by
        rcases Nat.eq_zero_or_pos es.length with h | h
        · rw [List.eq_nil_of_length_eq_zero h]; rfl
        · have := firstNZ_split es (es.length - 1) (by omega) (fun j hj => hz.out j (by omega))
          rw [this, List.drop_eq_getElem_cons (by omega)]
          have hz' := hz.out (es.length - 1) (by omega)
          rw [List.getElem?_eq_getElem (by omega)] at hz'
          simp at hz'
          simp [firstNZ, hz']
          have : es.length - 1 + 1 = es.length := by omega
          rw [this]; simp [firstNZ]
      have Hd := Lib.hid hd; clear hd
      have Hr := Lib.hid hr; clear hr
      go_wp2
      go_ret
      exact ⟨ret_int (by rw [Hd.out]), rfl⟩

theorem first2_any (e1 e2 : Int) (g : Nat) (w : World) (h : Blk w g 30 #[.int .i64 e1, .int .i64 e2]) :
    Calls Tryd.prog 25 #[.slice (some ⟨g, 0, none⟩) 2 2] w fun e w' => e = .returned (.int .i64 (firstNZ [e1, e2])) ∧ w = w' :=
  first_any (some ⟨g, 0, none⟩) 2 [e1, e2] w (h.reads 2 1 rfl) (by simp)
theorem first3_any (e1 e2 e3 : Int) (g : Nat) (w : World) (h : Blk w g 30 #[.int .i64 e1, .int .i64 e2, .int .i64 e3]) :
    Calls Tryd.prog 25 #[.slice (some ⟨g, 0, none⟩) 3 3] w fun e w' => e = .returned (.int .i64 (firstNZ [e1, e2, e3])) ∧ w = w' :=
  first_any (some ⟨g, 0, none⟩) 3 [e1, e2, e3] w (h.reads 3 1 rfl) (by simp)
theorem first4_any (e1 e2 e3 e4 : Int) (g : Nat) (w : World) (h : Blk w g 30 #[.int .i64 e1, .int .i64 e2, .int .i64 e3, .int .i64 e4]) :
    Calls Tryd.prog 25 #[.slice (some ⟨g, 0, none⟩) 4 4] w fun e w' => e = .returned (.int .i64 (firstNZ [e1, e2, e3, e4])) ∧ w = w' :=
  first_any (some ⟨g, 0, none⟩) 4 [e1, e2, e3, e4] w (h.reads 4 1 rfl) (by simp)

/-! ### sizes -/
set_option maxHeartbeats 400000 in
theorem checkSize_any (W H : Int) (w : World) :
    Calls Tryd.prog 95 #[.int .i64 W, .int .i64 H] w fun e w' => e = .returned (.int .i64 (sizeErr W H)) ∧ w = w' := by
  by_cases h1 : 1 ≤ W
  · by_cases h2 : W ≤ 4000
    · by_cases h3 : 1 ≤ H
      · by_cases h4 : H ≤ 4000
        · have hm := mul_bd h1 h2 h3 h4
          by_cases h5 : W * H > 1048576
          · have hs : sizeErr W H = 4 := by unfold sizeErr; rw [if_pos ⟨h1, h2, h3, h4⟩, if_pos h5]
            have Hs := Lib.hid hs; clear hs
            go_enter Tryd.func95, Tryd.ntmps95
            go_wp2
            go_ret
            exact ⟨ret_int Hs.out.symm, rfl⟩
          · have hs : sizeErr W H = 0 := by unfold sizeErr; rw [if_pos ⟨h1, h2, h3, h4⟩, if_neg h5]
            have Hs := Lib.hid hs; clear hs
            go_enter Tryd.func95, Tryd.ntmps95
            go_wp2
            go_ret
            exact ⟨ret_int Hs.out.symm, rfl⟩
        · have hs : sizeErr W H = 3 := by unfold sizeErr; rw [if_neg (by omega)]
          have Hs := Lib.hid hs; clear hs
          go_enter Tryd.func95, Tryd.ntmps95
          go_wp2
          go_ret
          exact ⟨ret_int Hs.out.symm, rfl⟩
      · have hs : sizeErr W H = 3 := by unfold sizeErr; rw [if_neg (by omega)]
        have Hs := Lib.hid hs; clear hs
        go_enter Tryd.func95, Tryd.ntmps95
        go_wp2
        go_ret
        exact ⟨ret_int Hs.out.symm, rfl⟩
    · have hs : sizeErr W H = 3 := by unfold sizeErr; rw [if_neg (by omega)]
      have Hs := Lib.hid hs; clear hs
      go_enter Tryd.func95, Tryd.ntmps95
      go_wp2
      go_ret
      exact ⟨ret_int Hs.out.symm, rfl⟩
  · have hs : sizeErr W H = 3 := by unfold sizeErr; rw [if_neg (by omega)]
    have Hs := Lib.hid hs; clear hs
    go_enter Tryd.func95, Tryd.ntmps95
    go_wp2
    go_ret
    exact ⟨ret_int Hs.out.symm, rfl⟩

theorem sizeErr_zero {W H : Int} (h : sizeErr W H = 0) : 1 ≤ W ∧ W ≤ 4000 ∧ 1 ≤ H ∧ H ≤ 4000 ∧ W * H ≤ 1048576 := by
  unfold sizeErr at h
  split at h
  · split at h
    · omega
    · rename_i a b; exact ⟨a.1, a.2.1, a.2.2.1, a.2.2.2, by omega⟩
  · omega
theorem sizeErr_cases (W H : Int) : sizeErr W H = 0 ∨ sizeErr W H = 3 ∨ sizeErr W H = 4 := by
  unfold sizeErr
  split
  · split
    · exact .inr (.inr rfl)
    · exact .inl rfl
  · exact .inr (.inl rfl)

/-- The first error of a size. -/
theorem sizeErr_first (W H : Int) : firstNZ [whenI (!inB W 1 4000 || !inB H 1 4000) 3, whenI (inB W 1 4000 && inB H 1 4000 && decide (W * H > 1048576)) 4] = sizeErr W H := by
  unfold sizeErr
  by_cases h : 1 ≤ W ∧ W ≤ 4000 ∧ 1 ≤ H ∧ H ≤ 4000
  · have a : inB W 1 4000 = true := inB_true.2 ⟨h.1, h.2.1⟩
    have b : inB H 1 4000 = true := inB_true.2 h.2.2
    rw [if_pos h, a, b]
    by_cases h5 : W * H > 1048576 <;> simp [firstNZ, whenI, h5]
  · rw [if_neg h]
    have a : (!inB W 1 4000 || !inB H 1 4000) = true := by
      rw [Bool.or_eq_true, Bool.not_eq_true', Bool.not_eq_true', inB_false, inB_false]; omega
    simp [firstNZ, whenI, a]

set_option maxHeartbeats 400000 in
theorem sizeError_any (W H : Int) (w : World) :
    Calls Tryd.prog 20 #[.int .i64 W, .int .i64 H] w fun e w' => e = .returned (.int .i64 (sizeErr W H)) ∧ Bl w w' := by
  have hf := sizeErr_first W H
  cases h1 : inB W 1 4000 <;> cases h2 : inB H 1 4000
  case true.true =>
    have hm := mul_bd (inB_true.1 h1).1 (inB_true.1 h1).2 (inB_true.1 h2).1 (inB_true.1 h2).2
    rw [h1, h2] at hf
    simp only [Bool.not_true, Bool.or_self, Bool.and_self, Bool.true_and] at hf
    have Hf := Lib.hid hf; clear hf
    go_enter Tryd.func20, Tryd.ntmps20
    go_wp2_with (first | (go_at_call 46; refine (in_any _ _ _ _).mono ?_; rintro e w' ⟨rfl, rfl⟩) | (go_at_call 26; refine (when_any _ _ _).mono ?_; rintro e w' ⟨rfl, rfl⟩) | (go_at_call 25; refine (first2_any _ _ _ _ (Blk.new _ _ _)).mono ?_; rintro e w' ⟨rfl, rfl⟩))
    go_ret
    exact ⟨ret_int Hf.out, (Bl.refl _).alloc _⟩
  all_goals
    rw [h1, h2] at hf
    simp only [Bool.not_true, Bool.not_false, Bool.or_self, Bool.and_self, Bool.false_and, Bool.and_false, Bool.or_true, Bool.true_or] at hf
    have Hf := Lib.hid hf; clear hf
    go_enter Tryd.func20, Tryd.ntmps20
    go_wp2_with (first | (go_at_call 46; refine (in_any _ _ _ _).mono ?_; rintro e w' ⟨rfl, rfl⟩) | (go_at_call 26; refine (when_any _ _ _).mono ?_; rintro e w' ⟨rfl, rfl⟩) | (go_at_call 25; refine (first2_any _ _ _ _ (Blk.new _ _ _)).mono ?_; rintro e w' ⟨rfl, rfl⟩))
    go_ret
    exact ⟨ret_int Hf.out, (Bl.refl _).alloc _⟩

/-! ### a page's error -/
theorem pageErr_first (W H : Int) (n : Nat) (b : Bool) (hb : sizeErr W H = 0 → b = !decide ((n : Int) = W * H)) : firstNZ [sizeErr W H, whenI b 2] = pageErr W H n := by
  unfold pageErr
  by_cases h : sizeErr W H = 0
  · rw [hb h, if_pos h, h]
    by_cases h5 : (n : Int) = W * H <;> simp [firstNZ, whenI, h5]
  · simp [firstNZ, h]

theorem ne_wrap (W H : Int) (n : Nat) (h : sizeErr W H = 0) : ((n : Int) != wrap64 (W * H)) = !decide ((n : Int) = W * H) := by
  have hz := sizeErr_zero h
  have hm := mul_bd hz.1 hz.2.1 hz.2.2.1 hz.2.2.2.1
  have e : wrap64 (W * H) = W * H := by unfold wrap64; omega
  rw [e]
  by_cases hx : (n : Int) = W * H <;> simp [hx]

theorem pageErr_zero {W H : Int} {n : Nat} (h : pageErr W H n = 0) : sizeErr W H = 0 ∧ (n : Int) = W * H := by
  unfold pageErr at h
  split at h
  · rename_i a
    refine ⟨a, ?_⟩
    split at h
    · assumption
    · omega
  · contradiction

set_option maxRecDepth 100000 in
set_option maxHeartbeats 400000 in
theorem grayError_any (W H : Int) (A : Option Addr) (n c : Nat) (w : World) :
    Calls Tryd.prog 13 #[.agg #[.int .i64 W, .int .i64 H, .slice A n c]] w fun e w' => e = .returned (.int .i64 (pageErr W H n)) ∧ Bl w w' := by
  go_enter Tryd.func13, Tryd.ntmps13
  go_wp2_with fail
  refine wp_region_flow [(true, 0), (true, 1), (true, 2), (true, 3), (true, 5), (true, 6), (true, 7), (true, 8), (true, 9), (true, 10), (true, 11), (true, 12), (true, 13), (false, 4), (false, 14), (false, 15), (false, 16), (true, 17)] (fun _ => false) (by kernel_rfl) (by kernel_rfl) (by kernel_rfl) (by kernel_rfl) ?_
  iterate 1
    apply Flow.calm2 _ _ rfl rfl
    · intro w' hb' K' hK'
      obtain ⟨hc', hf'⟩ := hb'.rule
      go_simp
      try go_ints
      exact hK'
    · intro K' hK'
      simp only [Act.put, List.setIfInBounds_toArray, List.set_cons_zero, List.set_cons_succ]
      exact hK'
  iterate 1
    apply Flow.calm2 _ _ rfl rfl
    · intro w' hb' K' hK'
      obtain ⟨hc', hf'⟩ := hb'.rule
      go_simp
      try go_ints
      exact hK'
    · intro K' hK'
      simp only [Act.put, List.setIfInBounds_toArray, List.set_cons_zero, List.set_cons_succ]
      exact hK'
  iterate 1
    apply Flow.calm2 _ _ rfl rfl
    · intro w' hb' K' hK'
      obtain ⟨hc', hf'⟩ := hb'.rule
      go_simp
      try go_ints
      exact hK'
    · intro K' hK'
      simp only [Act.put, List.setIfInBounds_toArray, List.set_cons_zero, List.set_cons_succ]
      exact hK'
  iterate 1
    apply Flow.calm2 _ _ rfl rfl
    · intro w' hb' K' hK'
      obtain ⟨hc', hf'⟩ := hb'.rule
      go_simp
      try go_ints
      exact hK'
    · intro K' hK'
      simp only [Act.put, List.setIfInBounds_toArray, List.set_cons_zero, List.set_cons_succ]
      exact hK'
  iterate 1
    apply Flow.calm2 _ _ rfl rfl
    · intro w' hb' K' hK'
      obtain ⟨hc', hf'⟩ := hb'.rule
      go_simp
      try go_ints
      exact hK'
    · intro K' hK'
      simp only [Act.put, List.setIfInBounds_toArray, List.set_cons_zero, List.set_cons_succ]
      exact hK'
  iterate 1
    apply Flow.calm2 _ _ rfl rfl
    · intro w' hb' K' hK'
      obtain ⟨hc', hf'⟩ := hb'.rule
      go_simp
      try go_ints
      exact hK'
    · intro K' hK'
      simp only [Act.put, List.setIfInBounds_toArray, List.set_cons_zero, List.set_cons_succ]
      exact hK'
  iterate 1
    apply Flow.calm2 _ _ rfl rfl
    · intro w' hb' K' hK'
      obtain ⟨hc', hf'⟩ := hb'.rule
      go_simp
      try go_ints
      exact hK'
    · intro K' hK'
      simp only [Act.put, List.setIfInBounds_toArray, List.set_cons_zero, List.set_cons_succ]
      exact hK'
  iterate 1
    apply Flow.calm2 _ _ rfl rfl
    · intro w' hb' K' hK'
      obtain ⟨hc', hf'⟩ := hb'.rule
      go_simp
      try go_ints
      exact hK'
    · intro K' hK'
      simp only [Act.put, List.setIfInBounds_toArray, List.set_cons_zero, List.set_cons_succ]
      exact hK'
  iterate 1
    apply Flow.calm2 _ _ rfl rfl
    · intro w' hb' K' hK'
      obtain ⟨hc', hf'⟩ := hb'.rule
      go_simp
      try go_ints
      exact hK'
    · intro K' hK'
      simp only [Act.put, List.setIfInBounds_toArray, List.set_cons_zero, List.set_cons_succ]
      exact hK'
  iterate 1
    apply Flow.calm2 _ _ rfl rfl
    · intro w' hb' K' hK'
      obtain ⟨hc', hf'⟩ := hb'.rule
      go_simp
      try go_ints
      exact hK'
    · intro K' hK'
      simp only [Act.put, List.setIfInBounds_toArray, List.set_cons_zero, List.set_cons_succ]
      exact hK'
  iterate 1
    apply Flow.calm2 _ _ rfl rfl
    · intro w' hb' K' hK'
      obtain ⟨hc', hf'⟩ := hb'.rule
      go_simp
      try go_ints
      exact hK'
    · intro K' hK'
      simp only [Act.put, List.setIfInBounds_toArray, List.set_cons_zero, List.set_cons_succ]
      exact hK'
  iterate 2
    apply Flow.calm2 _ _ rfl rfl
    · intro w' hb' K' hK'
      obtain ⟨hc', hf'⟩ := hb'.rule
      go_simp
      try go_ints
      exact hK'
    · intro K' hK'
      simp only [Act.put, List.setIfInBounds_toArray, List.set_cons_zero, List.set_cons_succ]
      exact hK'
  apply Flow.move rfl
  go_wp2_with fail
  refine (sizeError_any _ _ _).mono ?_
  rintro e w1 ⟨rfl, HB1⟩
  go_wp2_with fail
  refine ⟨fun _ => (by first | exact HB1 | exact Bl.refl _), ?_⟩
  apply Flow.move rfl
  go_wp2_with fail
  refine (when_any _ _ _).mono ?_
  rintro e w2 ⟨rfl, rfl⟩
  go_wp2_with fail
  refine ⟨fun _ => (by first | exact HB2 | exact Bl.refl _), ?_⟩
  apply Flow.move rfl
  go_wp2_with fail
  first | refine ⟨fun _ => ?_, ?_⟩ | refine ⟨?_, ?_⟩
  · repeat' (first | exact Bl.refl _ | refine Bl.drewL ?_ | refine Bl.drew ?_ | refine Bl.alloc ?_ _)
  apply Flow.move rfl
  go_wp2_with fail
  refine (first2_any _ _ _ _ (Blk.new _ _ _)).mono ?_
  rintro e w3 ⟨rfl, rfl⟩
  go_wp2_with fail
  refine ⟨fun _ => (by first | exact HB4 | exact Bl.refl _), ?_⟩
  iterate 1
    apply Flow.asg _ rfl
    · intro K' hK'
      simp only [Act.put, Act.eval, List.setIfInBounds_toArray, List.set_cons_zero, List.set_cons_succ, arr_getD, List.getD_cons_zero, List.getD_cons_succ]
      exact hK'
  refine Flow.done ?_
  go_wp2_with fail
  go_ret
  refine ⟨ret_int (pageErr_first W H n _ (ne_wrap W H n)), ?_⟩
  exact ((((Bl.refl _).alloc _).drew).trans HB1).alloc _

set_option maxRecDepth 100000 in
set_option maxHeartbeats 400000 in
theorem bitsError_any (W H : Int) (A : Option Addr) (n c : Nat) (w : World) :
    Calls Tryd.prog 12 #[.agg #[.int .i64 W, .int .i64 H, .slice A n c]] w fun e w' => e = .returned (.int .i64 (pageErr W H n)) ∧ Bl w w' := by
  go_enter Tryd.func12, Tryd.ntmps12
  go_wp2_with fail
  refine wp_region_flow [(true, 0), (true, 1), (true, 2), (true, 3), (true, 5), (true, 6), (true, 7), (true, 8), (true, 9), (true, 10), (true, 11), (true, 12), (true, 13), (false, 4), (false, 14), (false, 15), (false, 16), (true, 17)] (fun _ => false) (by kernel_rfl) (by kernel_rfl) (by kernel_rfl) (by kernel_rfl) ?_
  iterate 1
    apply Flow.calm2 _ _ rfl rfl
    · intro w' hb' K' hK'
      obtain ⟨hc', hf'⟩ := hb'.rule
      go_simp
      try go_ints
      exact hK'
    · intro K' hK'
      simp only [Act.put, List.setIfInBounds_toArray, List.set_cons_zero, List.set_cons_succ]
      exact hK'
  iterate 1
    apply Flow.calm2 _ _ rfl rfl
    · intro w' hb' K' hK'
      obtain ⟨hc', hf'⟩ := hb'.rule
      go_simp
      try go_ints
      exact hK'
    · intro K' hK'
      simp only [Act.put, List.setIfInBounds_toArray, List.set_cons_zero, List.set_cons_succ]
      exact hK'
  iterate 1
    apply Flow.calm2 _ _ rfl rfl
    · intro w' hb' K' hK'
      obtain ⟨hc', hf'⟩ := hb'.rule
      go_simp
      try go_ints
      exact hK'
    · intro K' hK'
      simp only [Act.put, List.setIfInBounds_toArray, List.set_cons_zero, List.set_cons_succ]
      exact hK'
  iterate 1
    apply Flow.calm2 _ _ rfl rfl
    · intro w' hb' K' hK'
      obtain ⟨hc', hf'⟩ := hb'.rule
      go_simp
      try go_ints
      exact hK'
    · intro K' hK'
      simp only [Act.put, List.setIfInBounds_toArray, List.set_cons_zero, List.set_cons_succ]
      exact hK'
  iterate 1
    apply Flow.calm2 _ _ rfl rfl
    · intro w' hb' K' hK'
      obtain ⟨hc', hf'⟩ := hb'.rule
      go_simp
      try go_ints
      exact hK'
    · intro K' hK'
      simp only [Act.put, List.setIfInBounds_toArray, List.set_cons_zero, List.set_cons_succ]
      exact hK'
  iterate 1
    apply Flow.calm2 _ _ rfl rfl
    · intro w' hb' K' hK'
      obtain ⟨hc', hf'⟩ := hb'.rule
      go_simp
      try go_ints
      exact hK'
    · intro K' hK'
      simp only [Act.put, List.setIfInBounds_toArray, List.set_cons_zero, List.set_cons_succ]
      exact hK'
  iterate 1
    apply Flow.calm2 _ _ rfl rfl
    · intro w' hb' K' hK'
      obtain ⟨hc', hf'⟩ := hb'.rule
      go_simp
      try go_ints
      exact hK'
    · intro K' hK'
      simp only [Act.put, List.setIfInBounds_toArray, List.set_cons_zero, List.set_cons_succ]
      exact hK'
  iterate 1
    apply Flow.calm2 _ _ rfl rfl
    · intro w' hb' K' hK'
      obtain ⟨hc', hf'⟩ := hb'.rule
      go_simp
      try go_ints
      exact hK'
    · intro K' hK'
      simp only [Act.put, List.setIfInBounds_toArray, List.set_cons_zero, List.set_cons_succ]
      exact hK'
  iterate 1
    apply Flow.calm2 _ _ rfl rfl
    · intro w' hb' K' hK'
      obtain ⟨hc', hf'⟩ := hb'.rule
      go_simp
      try go_ints
      exact hK'
    · intro K' hK'
      simp only [Act.put, List.setIfInBounds_toArray, List.set_cons_zero, List.set_cons_succ]
      exact hK'
  iterate 1
    apply Flow.calm2 _ _ rfl rfl
    · intro w' hb' K' hK'
      obtain ⟨hc', hf'⟩ := hb'.rule
      go_simp
      try go_ints
      exact hK'
    · intro K' hK'
      simp only [Act.put, List.setIfInBounds_toArray, List.set_cons_zero, List.set_cons_succ]
      exact hK'
  iterate 1
    apply Flow.calm2 _ _ rfl rfl
    · intro w' hb' K' hK'
      obtain ⟨hc', hf'⟩ := hb'.rule
      go_simp
      try go_ints
      exact hK'
    · intro K' hK'
      simp only [Act.put, List.setIfInBounds_toArray, List.set_cons_zero, List.set_cons_succ]
      exact hK'
  iterate 2
    apply Flow.calm2 _ _ rfl rfl
    · intro w' hb' K' hK'
      obtain ⟨hc', hf'⟩ := hb'.rule
      go_simp
      try go_ints
      exact hK'
    · intro K' hK'
      simp only [Act.put, List.setIfInBounds_toArray, List.set_cons_zero, List.set_cons_succ]
      exact hK'
  apply Flow.move rfl
  go_wp2_with fail
  refine (sizeError_any _ _ _).mono ?_
  rintro e w1 ⟨rfl, HB1⟩
  go_wp2_with fail
  refine ⟨fun _ => (by first | exact HB1 | exact Bl.refl _), ?_⟩
  apply Flow.move rfl
  go_wp2_with fail
  refine (when_any _ _ _).mono ?_
  rintro e w2 ⟨rfl, rfl⟩
  go_wp2_with fail
  refine ⟨fun _ => (by first | exact HB2 | exact Bl.refl _), ?_⟩
  apply Flow.move rfl
  go_wp2_with fail
  first | refine ⟨fun _ => ?_, ?_⟩ | refine ⟨?_, ?_⟩
  · repeat' (first | exact Bl.refl _ | refine Bl.drewL ?_ | refine Bl.drew ?_ | refine Bl.alloc ?_ _)
  apply Flow.move rfl
  go_wp2_with fail
  refine (first2_any _ _ _ _ (Blk.new _ _ _)).mono ?_
  rintro e w3 ⟨rfl, rfl⟩
  go_wp2_with fail
  refine ⟨fun _ => (by first | exact HB4 | exact Bl.refl _), ?_⟩
  iterate 1
    apply Flow.asg _ rfl
    · intro K' hK'
      simp only [Act.put, Act.eval, List.setIfInBounds_toArray, List.set_cons_zero, List.set_cons_succ, arr_getD, List.getD_cons_zero, List.getD_cons_succ]
      exact hK'
  refine Flow.done ?_
  go_wp2_with fail
  go_ret
  refine ⟨ret_int (pageErr_first W H n _ (ne_wrap W H n)), ?_⟩
  exact ((((Bl.refl _).alloc _).drew).trans HB1).alloc _

set_option maxRecDepth 100000 in
set_option maxHeartbeats 400000 in
theorem checkGray_any (W H : Int) (A : Option Addr) (n c : Nat) (w : World) :
    Calls Tryd.prog 17 #[.agg #[.int .i64 W, .int .i64 H, .slice A n c]] w fun e w' => e = .returned (.int .i64 (pageErr W H n)) ∧ Bl w w' := by
  by_cases h : sizeErr W H = 0
  · have hz := sizeErr_zero h
    have hm := mul_bd hz.1 hz.2.1 hz.2.2.1 hz.2.2.2.1
    have hp : pageErr W H n = if (n : Int) = W * H then 0 else 2 := by unfold pageErr; rw [if_pos h]
    by_cases h5 : (n : Int) = W * H
    · rw [if_pos h5] at hp
      have hq : ((n : Int) != W * H) = false := by simp [h5]
      have H5 := Lib.hid h5; clear h5
      have Hp := Lib.hid hp; clear hp
      go_enter Tryd.func17, Tryd.ntmps17
      go_wp2_with (go_at_call 95; refine (checkSize_any _ _ _).mono ?_; rintro e w' ⟨rfl, rfl⟩)
      go_ret
      exact ⟨ret_int Hp.out.symm, (Bl.refl _).alloc _⟩
    · rw [if_neg h5] at hp
      have hq : ((n : Int) != W * H) = true := by simp [h5]
      have H5 := Lib.hid h5; clear h5
      have Hp := Lib.hid hp; clear hp
      go_enter Tryd.func17, Tryd.ntmps17
      go_wp2_with (go_at_call 95; refine (checkSize_any _ _ _).mono ?_; rintro e w' ⟨rfl, rfl⟩)
      go_ret
      exact ⟨ret_int Hp.out.symm, (Bl.refl _).alloc _⟩
  · have hp : pageErr W H n = sizeErr W H := by unfold pageErr; rw [if_neg h]
    have hq : (sizeErr W H != 0) = true := by simp [h]
    have Hp := Lib.hid hp; clear hp h
    go_enter Tryd.func17, Tryd.ntmps17
    go_wp2_with (go_at_call 95; refine (checkSize_any _ _ _).mono ?_; rintro e w' ⟨rfl, rfl⟩)
    go_ret
    exact ⟨ret_int Hp.out.symm, (Bl.refl _).alloc _⟩

set_option maxRecDepth 100000 in
set_option maxHeartbeats 400000 in
theorem checkBits_any (W H : Int) (A : Option Addr) (n c : Nat) (w : World) :
    Calls Tryd.prog 16 #[.agg #[.int .i64 W, .int .i64 H, .slice A n c]] w fun e w' => e = .returned (.int .i64 (pageErr W H n)) ∧ Bl w w' := by
  by_cases h : sizeErr W H = 0
  · have hz := sizeErr_zero h
    have hm := mul_bd hz.1 hz.2.1 hz.2.2.1 hz.2.2.2.1
    have hp : pageErr W H n = if (n : Int) = W * H then 0 else 2 := by unfold pageErr; rw [if_pos h]
    by_cases h5 : (n : Int) = W * H
    · rw [if_pos h5] at hp
      have hq : ((n : Int) != W * H) = false := by simp [h5]
      have H5 := Lib.hid h5; clear h5
      have Hp := Lib.hid hp; clear hp
      go_enter Tryd.func16, Tryd.ntmps16
      go_wp2_with (go_at_call 95; refine (checkSize_any _ _ _).mono ?_; rintro e w' ⟨rfl, rfl⟩)
      go_ret
      exact ⟨ret_int Hp.out.symm, (Bl.refl _).alloc _⟩
    · rw [if_neg h5] at hp
      have hq : ((n : Int) != W * H) = true := by simp [h5]
      have H5 := Lib.hid h5; clear h5
      have Hp := Lib.hid hp; clear hp
      go_enter Tryd.func16, Tryd.ntmps16
      go_wp2_with (go_at_call 95; refine (checkSize_any _ _ _).mono ?_; rintro e w' ⟨rfl, rfl⟩)
      go_ret
      exact ⟨ret_int Hp.out.symm, (Bl.refl _).alloc _⟩
  · have hp : pageErr W H n = sizeErr W H := by unfold pageErr; rw [if_neg h]
    have hq : (sizeErr W H != 0) = true := by simp [h]
    have Hp := Lib.hid hp; clear hp h
    go_enter Tryd.func16, Tryd.ntmps16
    go_wp2_with (go_at_call 95; refine (checkSize_any _ _ _).mono ?_; rintro e w' ⟨rfl, rfl⟩)
    go_ret
    exact ⟨ret_int Hp.out.symm, (Bl.refl _).alloc _⟩

theorem page_nat {W H : Int} {n : Nat} (h : pageErr W H n = 0) : ∃ W' H' : Nat, W = (W' : Int) ∧ H = (H' : Int) ∧ n = W' * H' ∧ W' ≤ 4000 ∧ H' ≤ 4000 ∧ W' * H' ≤ 1048576 := by
  obtain ⟨hs, hn⟩ := pageErr_zero h
  have hz' := sizeErr_zero hs
  obtain ⟨W, rfl⟩ := Int.eq_ofNat_of_zero_le (show 0 ≤ W by omega)
  obtain ⟨H, rfl⟩ := Int.eq_ofNat_of_zero_le (show 0 ≤ H by omega)
  have := Int.natCast_mul W H
  exact ⟨W, H, rfl, rfl, by omega, by omega, by omega, by omega⟩

end Go.Proofs.YtecfjdladcmhjaaDoor
