/- The plain law of ink that is moved place by place. -/
import Derived.Test.YtpjemcfcheijkaaDoorMClaimLetters0

namespace Go.Proofs.YtpjemcfcheijkaaDoor
open Go.RowKit

/-! ### plain -/
def inB (n lo hi : Int) : Bool := decide (lo ≤ n) && decide (n ≤ hi)
theorem inB_true {n lo hi : Int} : inB n lo hi = true ↔ lo ≤ n ∧ n ≤ hi := by simp [inB]
theorem inB_false {n lo hi : Int} : inB n lo hi = false ↔ n < lo ∨ hi < n := by simp [inB]; omega
def whenI (b : Bool) (e : Int) : Int := if b then e else 0
def sizeErr (W H : Int) : Int := if 1 ≤ W ∧ W ≤ 4000 ∧ 1 ≤ H ∧ H ≤ 4000 then (if W * H > 1048576 then 4 else 0) else 3
def pageErr (W H : Int) (n : Nat) : Int := if sizeErr W H = 0 then (if (n : Int) = W * H then 0 else 2) else sizeErr W H
def firstNZ : List Int → Int
  | [] => 0
  | e :: es => if e = 0 then firstNZ es else e

theorem mul_bd {W H : Int} (h1 : 1 ≤ W) (h2 : W ≤ 4000) (h3 : 1 ≤ H) (h4 : H ≤ 4000) : 1 ≤ W * H ∧ W * H ≤ 16000000 := by
  have a := Int.mul_le_mul h1 h3 (by omega) (by omega)
  have b := Int.mul_le_mul h2 h4 (by omega) (by omega)
  omega

/-! ### bedref2.In, When, First -/
set_option maxHeartbeats 400000 in
theorem in_any (n lo hi : Int) (w : World) :
    Calls Tryd.prog 10 #[.int .i64 n, .int .i64 lo, .int .i64 hi] w fun e w' => e = .returned (.bool (inB n lo hi)) ∧ w = w' := by
  unfold inB
  by_cases h1 : lo ≤ n <;> by_cases h2 : n ≤ hi
  all_goals
    go_enter Tryd.func10, Tryd.ntmps10
    go_wp2
    go_ret
    exact ⟨by simp [*], rfl⟩

set_option maxHeartbeats 400000 in
theorem when_any (b : Bool) (n : Int) (w : World) :
    Calls Tryd.prog 9 #[.bool b, .int .i64 n] w fun e w' => e = .returned (.int .i64 (whenI b n)) ∧ w = w' := by
  unfold whenI
  cases b
  all_goals
    go_enter Tryd.func9, Tryd.ntmps9
    go_wp2
    go_ret
    exact ⟨by simp, rfl⟩

theorem firstNZ_split (es : List Int) (k : Nat) (hk : k < es.length) (h : ∀ j, j < k → es[j]? = some 0) : firstNZ es = firstNZ (es.drop k) := by
  induction k generalizing es with
  | zero => simp
  | succ k ih =>
    cases es with
    | nil => simp at hk
    | cons e es =>
      have h0 := h 0 (by omega)
      simp at h0
      subst h0
      simp only [firstNZ, if_true, List.drop_succ_cons]
      exact ih es (by simpa using hk) (fun j hj => by simpa using h (j+1) (by omega))

set_option maxHeartbeats 400000 in
theorem first_any (A : Option Addr) (c : Nat) (es : List Int) (w : World) (hr : Reads w 1 A es.length (es.map (.int .i64))) (hl : es.length ≤ 1000) :
    Calls Tryd.prog 13 #[.slice A es.length c] w fun e w' => e = .returned (.int .i64 (firstNZ es)) ∧ w = w' := by
  go_enter Tryd.func13, Tryd.ntmps13
  go_wp2
  go_loop [7] (fun v => ∃ k : Nat, k ≤ es.length ∧ v = .int .i64 k ∧ Hid (∀ j, j < k → es[j]? = some 0)) (fun v => es.length - (intOf v).toNat)
  case atStart => exact ⟨0, Nat.zero_le _, rfl, fun j hj => absurd hj (by omega)⟩
  case round =>
    obtain ⟨k, hk, rfl, hz⟩ := hrel
    by_cases hlt : k < es.length
    · obtain ⟨ad, u, rfl, hu, hc⟩ := hr.at_ hlt
      have hu' : u = .int .i64 es[k] := by simpa [hlt] using hu.symm
      subst hu'
      have hd : firstNZ es = if es[k] = 0 then firstNZ (es.drop (k+1)) else es[k] := by
        rw [firstNZ_split es k hlt hz.out, List.drop_eq_getElem_cons hlt]; rfl
      have Hd := Lib.hid hd; clear hd hu
      have Hn := Lib.hid hr; clear hr
      by_cases h0 : es[k] = 0
      · have hzz : Hid (∀ j, j < k + 1 → es[j]? = some 0) := fun j hj => by
          rcases Nat.lt_or_ge j k with h | h
          · exact hz.out j h
          · obtain rfl : j = k := by omega
            simp [hlt, h0]
        go_wp2
        go_round
        case rel => exact ⟨k+1, hlt, by go_num, hzz⟩
        case measure => simp [intOf]; omega
      · have hb : (es[k] != 0) = true := by simpa using h0
        have h0' := Lib.hid h0; clear h0
        go_wp2
        go_ret
        exact ⟨ret_int (by rw [Hd.out, if_neg h0'.out]), rfl⟩
    · have hd : firstNZ es = 0 := by
        rcases Nat.eq_zero_or_pos es.length with h | h
        · rw [List.eq_nil_of_length_eq_zero h]; rfl
        · have := firstNZ_split es (es.length - 1) (by omega) (fun j hj => hz.out j (by omega))
          rw [this, List.drop_eq_getElem_cons (by omega)]
          have hz' := hz.out (es.length - 1) (by omega)
          rw [List.getElem?_eq_getElem (by omega)] at hz'
          simp at hz'
          simp [firstNZ, hz']
          have : es.length - 1 + 1 = es.length := by omega
          rw [this]; simp [firstNZ]
      have Hd := Lib.hid hd; clear hd
      have Hr := Lib.hid hr; clear hr
      go_wp2
      go_ret
      exact ⟨ret_int (by rw [Hd.out]), rfl⟩

theorem first2_any (e1 e2 : Int) (g : Nat) (w : World) (h : Blk w g 28 #[.int .i64 e1, .int .i64 e2]) :
    Calls Tryd.prog 13 #[.slice (some ⟨g, 0, none⟩) 2 2] w fun e w' => e = .returned (.int .i64 (firstNZ [e1, e2])) ∧ w = w' :=
  first_any (some ⟨g, 0, none⟩) 2 [e1, e2] w (h.reads 2 1 rfl) (by simp)
theorem first3_any (e1 e2 e3 : Int) (g : Nat) (w : World) (h : Blk w g 28 #[.int .i64 e1, .int .i64 e2, .int .i64 e3]) :
    Calls Tryd.prog 13 #[.slice (some ⟨g, 0, none⟩) 3 3] w fun e w' => e = .returned (.int .i64 (firstNZ [e1, e2, e3])) ∧ w = w' :=
  first_any (some ⟨g, 0, none⟩) 3 [e1, e2, e3] w (h.reads 3 1 rfl) (by simp)
theorem first4_any (e1 e2 e3 e4 : Int) (g : Nat) (w : World) (h : Blk w g 28 #[.int .i64 e1, .int .i64 e2, .int .i64 e3, .int .i64 e4]) :
    Calls Tryd.prog 13 #[.slice (some ⟨g, 0, none⟩) 4 4] w fun e w' => e = .returned (.int .i64 (firstNZ [e1, e2, e3, e4])) ∧ w = w' :=
  first_any (some ⟨g, 0, none⟩) 4 [e1, e2, e3, e4] w (h.reads 4 1 rfl) (by simp)

/-! ### sizes -/
set_option maxHeartbeats 400000 in
theorem checkSize_any (W H : Int) (w : World) :
    Calls Tryd.prog 92 #[.int .i64 W, .int .i64 H] w fun e w' => e = .returned (.int .i64 (sizeErr W H)) ∧ w = w' := by
  by_cases h1 : 1 ≤ W
  · by_cases h2 : W ≤ 4000
    · by_cases h3 : 1 ≤ H
      · by_cases h4 : H ≤ 4000
        · have hm := mul_bd h1 h2 h3 h4
          by_cases h5 : W * H > 1048576
          · have hs : sizeErr W H = 4 := by unfold sizeErr; rw [if_pos ⟨h1, h2, h3, h4⟩, if_pos h5]
            have Hs := Lib.hid hs; clear hs
            go_enter Tryd.func92, Tryd.ntmps92
            go_wp2
            go_ret
            exact ⟨ret_int Hs.out.symm, rfl⟩
          · have hs : sizeErr W H = 0 := by unfold sizeErr; rw [if_pos ⟨h1, h2, h3, h4⟩, if_neg h5]
            have Hs := Lib.hid hs; clear hs
            go_enter Tryd.func92, Tryd.ntmps92
            go_wp2
            go_ret
            exact ⟨ret_int Hs.out.symm, rfl⟩
        · have hs : sizeErr W H = 3 := by unfold sizeErr; rw [if_neg (by omega)]
          have Hs := Lib.hid hs; clear hs
          go_enter Tryd.func92, Tryd.ntmps92
          go_wp2
          go_ret
          exact ⟨ret_int Hs.out.symm, rfl⟩
      · have hs : sizeErr W H = 3 := by unfold sizeErr; rw [if_neg (by omega)]
        have Hs := Lib.hid hs; clear hs
        go_enter Tryd.func92, Tryd.ntmps92
        go_wp2
        go_ret
        exact ⟨ret_int Hs.out.symm, rfl⟩
    · have hs : sizeErr W H = 3 := by unfold sizeErr; rw [if_neg (by omega)]
      have Hs := Lib.hid hs; clear hs
      go_enter Tryd.func92, Tryd.ntmps92
      go_wp2
      go_ret
      exact ⟨ret_int Hs.out.symm, rfl⟩
  · have hs : sizeErr W H = 3 := by unfold sizeErr; rw [if_neg (by omega)]
    have Hs := Lib.hid hs; clear hs
    go_enter Tryd.func92, Tryd.ntmps92
    go_wp2
    go_ret
    exact ⟨ret_int Hs.out.symm, rfl⟩

theorem sizeErr_zero {W H : Int} (h : sizeErr W H = 0) : 1 ≤ W ∧ W ≤ 4000 ∧ 1 ≤ H ∧ H ≤ 4000 ∧ W * H ≤ 1048576 := by
  unfold sizeErr at h
  split at h
  · split at h
    · omega
    · rename_i a b; exact ⟨a.1, a.2.1, a.2.2.1, a.2.2.2, by omega⟩
  · omega
theorem sizeErr_cases (W H : Int) : sizeErr W H = 0 ∨ sizeErr W H = 3 ∨ sizeErr W H = 4 := by
  unfold sizeErr
  split
  · split
    · exact .inr (.inr rfl)
    · exact .inl rfl
  · exact .inr (.inl rfl)

/-- The first error of a size. -/
theorem sizeErr_first (W H : Int) : firstNZ [whenI (!inB W 1 4000 || !inB H 1 4000) 3, whenI (inB W 1 4000 && inB H 1 4000 && decide (W * H > 1048576)) 4] = sizeErr W H := by
  unfold sizeErr
  by_cases h : 1 ≤ W ∧ W ≤ 4000 ∧ 1 ≤ H ∧ H ≤ 4000
  · have a : inB W 1 4000 = true := inB_true.2 ⟨h.1, h.2.1⟩
    have b : inB H 1 4000 = true := inB_true.2 h.2.2
    rw [if_pos h, a, b]
    by_cases h5 : W * H > 1048576 <;> simp [firstNZ, whenI, h5]
  · rw [if_neg h]
    have a : (!inB W 1 4000 || !inB H 1 4000) = true := by
      rw [Bool.or_eq_true, Bool.not_eq_true', Bool.not_eq_true', inB_false, inB_false]; omega
    simp [firstNZ, whenI, a]

set_option maxHeartbeats 400000 in
theorem sizeError_any (W H : Int) (w : World) :
    Calls Tryd.prog 48 #[.int .i64 W, .int .i64 H] w fun e w' => e = .returned (.int .i64 (sizeErr W H)) ∧ Bl w w' := by
  have hf := sizeErr_first W H
  cases h1 : inB W 1 4000 <;> cases h2 : inB H 1 4000
  case true.true =>
    have hm := mul_bd (inB_true.1 h1).1 (inB_true.1 h1).2 (inB_true.1 h2).1 (inB_true.1 h2).2
    rw [h1, h2] at hf
    simp only [Bool.not_true, Bool.or_self, Bool.and_self, Bool.true_and] at hf
    have Hf := Lib.hid hf; clear hf
    go_enter Tryd.func48, Tryd.ntmps48
    go_wp2_with (first | (go_at_call 10; refine (in_any _ _ _ _).mono ?_; rintro e w' ⟨rfl, rfl⟩) | (go_at_call 9; refine (when_any _ _ _).mono ?_; rintro e w' ⟨rfl, rfl⟩) | (go_at_call 13; refine (first2_any _ _ _ _ (Blk.new _ _ _)).mono ?_; rintro e w' ⟨rfl, rfl⟩))
    go_ret
    exact ⟨ret_int Hf.out, (Bl.refl _).alloc _⟩
  all_goals
    rw [h1, h2] at hf
    simp only [Bool.not_true, Bool.not_false, Bool.or_self, Bool.and_self, Bool.false_and, Bool.and_false, Bool.or_true, Bool.true_or] at hf
    have Hf := Lib.hid hf; clear hf
    go_enter Tryd.func48, Tryd.ntmps48
    go_wp2_with (first | (go_at_call 10; refine (in_any _ _ _ _).mono ?_; rintro e w' ⟨rfl, rfl⟩) | (go_at_call 9; refine (when_any _ _ _).mono ?_; rintro e w' ⟨rfl, rfl⟩) | (go_at_call 13; refine (first2_any _ _ _ _ (Blk.new _ _ _)).mono ?_; rintro e w' ⟨rfl, rfl⟩))
    go_ret
    exact ⟨ret_int Hf.out, (Bl.refl _).alloc _⟩

/-! ### a page's error -/
theorem pageErr_first (W H : Int) (n : Nat) (b : Bool) (hb : sizeErr W H = 0 → b = !decide ((n : Int) = W * H)) : firstNZ [sizeErr W H, whenI b 2] = pageErr W H n := by
  unfold pageErr
  by_cases h : sizeErr W H = 0
  · rw [hb h, if_pos h, h]
    by_cases h5 : (n : Int) = W * H <;> simp [firstNZ, whenI, h5]
  · simp [firstNZ, h]

theorem ne_wrap (W H : Int) (n : Nat) (h : sizeErr W H = 0) : ((n : Int) != wrap64 (W * H)) = !decide ((n : Int) = W * H) := by
  have hz := sizeErr_zero h
  have hm := mul_bd hz.1 hz.2.1 hz.2.2.1 hz.2.2.2.1
  have e : wrap64 (W * H) = W * H := by unfold wrap64; omega
  rw [e]
  by_cases hx : (n : Int) = W * H <;> simp [hx]

theorem pageErr_zero {W H : Int} {n : Nat} (h : pageErr W H n = 0) : sizeErr W H = 0 ∧ (n : Int) = W * H := by
  unfold pageErr at h
  split at h
  · rename_i a
    refine ⟨a, ?_⟩
    split at h
    · assumption
    · omega
  · contradiction

set_option maxRecDepth 100000 in
set_option maxHeartbeats 400000 in
theorem bitsError_any (W H : Int) (A : Option Addr) (n c : Nat) (w : World) :
    Calls Tryd.prog 8 #[.agg #[.int .i64 W, .int .i64 H, .slice A n c]] w fun e w' => e = .returned (.int .i64 (pageErr W H n)) ∧ Bl w w' := by
  go_enter Tryd.func8, Tryd.ntmps8
  go_wp2_with fail
  refine wp_region_flow [(true, 0), (true, 1), (true, 2), (true, 3), (true, 5), (true, 6), (true, 7), (true, 8), (true, 9), (true, 10), (true, 11), (true, 12), (true, 13), (false, 4), (false, 14), (false, 15), (false, 16), (true, 17)] (fun _ => false) (by kernel_rfl) (by kernel_rfl) (by kernel_rfl) (by kernel_rfl) ?_
  iterate 1
    apply Flow.calm2 _ _ rfl rfl
    · intro w' hb' K' hK'
      obtain ⟨hc', hf'⟩ := hb'.rule
      go_simp
      try go_ints
      exact hK'
    · intro K' hK'
      simp only [Act.put, List.setIfInBounds_toArray, List.set_cons_zero, List.set_cons_succ]
      exact hK'
  iterate 1
    apply Flow.calm2 _ _ rfl rfl
    · intro w' hb' K' hK'
      obtain ⟨hc', hf'⟩ := hb'.rule
      go_simp
      try go_ints
      exact hK'
    · intro K' hK'
      simp only [Act.put, List.setIfInBounds_toArray, List.set_cons_zero, List.set_cons_succ]
      exact hK'
  iterate 1
    apply Flow.calm2 _ _ rfl rfl
    · intro w' hb' K' hK'
      obtain ⟨hc', hf'⟩ := hb'.rule
      go_simp
      try go_ints
      exact hK'
    · intro K' hK'
      simp only [Act.put, List.setIfInBounds_toArray, List.set_cons_zero, List.set_cons_succ]
      exact hK'
  iterate 1
    apply Flow.calm2 _ _ rfl rfl
    · intro w' hb' K' hK'
      obtain ⟨hc', hf'⟩ := hb'.rule
      go_simp
      try go_ints
      exact hK'
    · intro K' hK'
      simp only [Act.put, List.setIfInBounds_toArray, List.set_cons_zero, List.set_cons_succ]
      exact hK'
  iterate 1
    apply Flow.calm2 _ _ rfl rfl
    · intro w' hb' K' hK'
      obtain ⟨hc', hf'⟩ := hb'.rule
      go_simp
      try go_ints
      exact hK'
    · intro K' hK'
      simp only [Act.put, List.setIfInBounds_toArray, List.set_cons_zero, List.set_cons_succ]
      exact hK'
  iterate 1
    apply Flow.calm2 _ _ rfl rfl
    · intro w' hb' K' hK'
      obtain ⟨hc', hf'⟩ := hb'.rule
      go_simp
      try go_ints
      exact hK'
    · intro K' hK'
      simp only [Act.put, List.setIfInBounds_toArray, List.set_cons_zero, List.set_cons_succ]
      exact hK'
  iterate 1
    apply Flow.calm2 _ _ rfl rfl
    · intro w' hb' K' hK'
      obtain ⟨hc', hf'⟩ := hb'.rule
      go_simp
      try go_ints
      exact hK'
    · intro K' hK'
      simp only [Act.put, List.setIfInBounds_toArray, List.set_cons_zero, List.set_cons_succ]
      exact hK'
  iterate 1
    apply Flow.calm2 _ _ rfl rfl
    · intro w' hb' K' hK'
      obtain ⟨hc', hf'⟩ := hb'.rule
      go_simp
      try go_ints
      exact hK'
    · intro K' hK'
      simp only [Act.put, List.setIfInBounds_toArray, List.set_cons_zero, List.set_cons_succ]
      exact hK'
  iterate 1
    apply Flow.calm2 _ _ rfl rfl
    · intro w' hb' K' hK'
      obtain ⟨hc', hf'⟩ := hb'.rule
      go_simp
      try go_ints
      exact hK'
    · intro K' hK'
      simp only [Act.put, List.setIfInBounds_toArray, List.set_cons_zero, List.set_cons_succ]
      exact hK'
  iterate 1
    apply Flow.calm2 _ _ rfl rfl
    · intro w' hb' K' hK'
      obtain ⟨hc', hf'⟩ := hb'.rule
      go_simp
      try go_ints
      exact hK'
    · intro K' hK'
      simp only [Act.put, List.setIfInBounds_toArray, List.set_cons_zero, List.set_cons_succ]
      exact hK'
  iterate 1
    apply Flow.calm2 _ _ rfl rfl
    · intro w' hb' K' hK'
      obtain ⟨hc', hf'⟩ := hb'.rule
      go_simp
      try go_ints
      exact hK'
    · intro K' hK'
      simp only [Act.put, List.setIfInBounds_toArray, List.set_cons_zero, List.set_cons_succ]
      exact hK'
  iterate 2
    apply Flow.calm2 _ _ rfl rfl
    · intro w' hb' K' hK'
      obtain ⟨hc', hf'⟩ := hb'.rule
      go_simp
      try go_ints
      exact hK'
    · intro K' hK'
      simp only [Act.put, List.setIfInBounds_toArray, List.set_cons_zero, List.set_cons_succ]
      exact hK'
  apply Flow.move rfl
  go_wp2_with fail
  refine (sizeError_any _ _ _).mono ?_
  rintro e w1 ⟨rfl, HB1⟩
  go_wp2_with fail
  refine ⟨fun _ => (by first | exact HB1 | exact Bl.refl _), ?_⟩
  apply Flow.move rfl
  go_wp2_with fail
  refine (when_any _ _ _).mono ?_
  rintro e w2 ⟨rfl, rfl⟩
  go_wp2_with fail
  refine ⟨fun _ => (by first | exact HB2 | exact Bl.refl _), ?_⟩
  apply Flow.move rfl
  go_wp2_with fail
  first | refine ⟨fun _ => ?_, ?_⟩ | refine ⟨?_, ?_⟩
  · repeat' (first | exact Bl.refl _ | refine Bl.drewL ?_ | refine Bl.drew ?_ | refine Bl.alloc ?_ _)
  apply Flow.move rfl
  go_wp2_with fail
  refine (first2_any _ _ _ _ (Blk.new _ _ _)).mono ?_
  rintro e w3 ⟨rfl, rfl⟩
  go_wp2_with fail
  refine ⟨fun _ => (by first | exact HB4 | exact Bl.refl _), ?_⟩
  iterate 1
    apply Flow.asg _ rfl
    · intro K' hK'
      simp only [Act.put, Act.eval, List.setIfInBounds_toArray, List.set_cons_zero, List.set_cons_succ, arr_getD, List.getD_cons_zero, List.getD_cons_succ]
      exact hK'
  refine Flow.done ?_
  go_wp2_with fail
  go_ret
  refine ⟨ret_int (pageErr_first W H n _ (ne_wrap W H n)), ?_⟩
  exact ((((Bl.refl _).alloc _).drew).trans HB1).alloc _

set_option maxRecDepth 100000 in
set_option maxHeartbeats 400000 in
theorem checkBits_any (W H : Int) (A : Option Addr) (n c : Nat) (w : World) :
    Calls Tryd.prog 50 #[.agg #[.int .i64 W, .int .i64 H, .slice A n c]] w fun e w' => e = .returned (.int .i64 (pageErr W H n)) ∧ Bl w w' := by
  by_cases h : sizeErr W H = 0
  · have hz := sizeErr_zero h
    have hm := mul_bd hz.1 hz.2.1 hz.2.2.1 hz.2.2.2.1
    have hp : pageErr W H n = if (n : Int) = W * H then 0 else 2 := by unfold pageErr; rw [if_pos h]
    by_cases h5 : (n : Int) = W * H
    · rw [if_pos h5] at hp
      have hq : ((n : Int) != W * H) = false := by simp [h5]
      have H5 := Lib.hid h5; clear h5
      have Hp := Lib.hid hp; clear hp
      go_enter Tryd.func50, Tryd.ntmps50
      go_wp2_with (go_at_call 92; refine (checkSize_any _ _ _).mono ?_; rintro e w' ⟨rfl, rfl⟩)
      go_ret
      exact ⟨ret_int Hp.out.symm, (Bl.refl _).alloc _⟩
    · rw [if_neg h5] at hp
      have hq : ((n : Int) != W * H) = true := by simp [h5]
      have H5 := Lib.hid h5; clear h5
      have Hp := Lib.hid hp; clear hp
      go_enter Tryd.func50, Tryd.ntmps50
      go_wp2_with (go_at_call 92; refine (checkSize_any _ _ _).mono ?_; rintro e w' ⟨rfl, rfl⟩)
      go_ret
      exact ⟨ret_int Hp.out.symm, (Bl.refl _).alloc _⟩
  · have hp : pageErr W H n = sizeErr W H := by unfold pageErr; rw [if_neg h]
    have hq : (sizeErr W H != 0) = true := by simp [h]
    have Hp := Lib.hid hp; clear hp h
    go_enter Tryd.func50, Tryd.ntmps50
    go_wp2_with (go_at_call 92; refine (checkSize_any _ _ _).mono ?_; rintro e w' ⟨rfl, rfl⟩)
    go_ret
    exact ⟨ret_int Hp.out.symm, (Bl.refl _).alloc _⟩

theorem page_nat {W H : Int} {n : Nat} (h : pageErr W H n = 0) : ∃ W' H' : Nat, W = (W' : Int) ∧ H = (H' : Int) ∧ n = W' * H' ∧ W' ≤ 4000 ∧ H' ≤ 4000 ∧ W' * H' ≤ 1048576 := by
  obtain ⟨hs, hn⟩ := pageErr_zero h
  have hz' := sizeErr_zero hs
  obtain ⟨W, rfl⟩ := Int.eq_ofNat_of_zero_le (show 0 ≤ W by omega)
  obtain ⟨H, rfl⟩ := Int.eq_ofNat_of_zero_le (show 0 ≤ H by omega)
  have := Int.natCast_mul W H
  exact ⟨W, H, rfl, rfl, by omega, by omega, by omega, by omega⟩

end Go.Proofs.YtpjemcfcheijkaaDoor


/-! Division that is rounded, in the reference and in the program; blank pages. -/
namespace Go.Proofs.YtpjemcfcheijkaaDoor
open Go.RowKit

def roundI (a b : Int) : Int := (2 * a + b) / (2 * b)

theorem div_facts (a b : Int) (hb : 1 ≤ b) : a / b * b ≤ a ∧ a < (a / b + 1) * b ∧ (a / b + 1) * b = a / b * b + b := by
  have h1 := Int.mul_ediv_self_le (x := a) (k := b) (by omega)
  have h2 := Int.lt_mul_ediv_self_add (x := a) (k := b) (by omega)
  have e : (a / b + 1) * b = a / b * b + b := by rw [Int.add_mul, Int.one_mul]
  rw [Int.mul_comm] at h1 h2
  omega

/-- Cut towards nought, of a negative number: the floor, or one more. -/
theorem tdiv_neg (a b : Int) (hb : 1 ≤ b) (ha : a < 0) : (a.tdiv b = a / b ∧ a.tmod b = 0 ∧ a / b * b = a) ∨ (a.tdiv b = a / b + 1 ∧ a.tmod b < 0 ∧ a / b * b < a) := by
  have h1 := Int.mul_tdiv_add_tmod a b
  have h2 := Int.mul_ediv_add_emod a b
  have h3 := Int.emod_nonneg a (show b ≠ 0 by omega)
  have h4 := Int.emod_lt_of_pos a (show 0 < b by omega)
  have hc : b * (a / b) = a / b * b := Int.mul_comm _ _
  rw [Int.tdiv_eq_ediv, Int.tmod_eq_emod] at *
  by_cases hd : b ∣ a
  · left
    have : a % b = 0 := Int.emod_eq_zero_of_dvd hd
    simp [hd, this]
    omega
  · right
    have hne : a % b ≠ 0 := fun e => hd (Int.dvd_of_emod_eq_zero e)
    have hna : ¬ (0 ≤ a) := by omega
    have hs : b.sign = 1 := Int.sign_eq_one_of_pos (by omega)
    have hab : (b.natAbs : Int) = b := by omega
    simp [hd, hna, hs, hab]
    omega

theorem div_bd (a b : Int) (hb : 1 ≤ b) (h1 : -1099511627776 ≤ a) (h2 : a ≤ 1099511627776) : -1099511627776 ≤ a / b ∧ a / b ≤ 1099511627776 := by
  constructor
  · exact Int.le_trans (by omega) (Int.le_ediv_of_mul_le (by omega) (show -1099511627776 * b ≤ a by omega))
  · exact Int.ediv_le_of_le_mul (by omega) (by omega)

end Go.Proofs.YtpjemcfcheijkaaDoor


/-! Sums of values from the upper left corner on: what page.SumsOf makes, what the sum of a box is. -/
namespace Go.Proofs.YtpjemcfcheijkaaDoor
open Go.RowKit

theorem info_int : (Tryd.prog.info? 3).map (fun i => (i.zero, i.size, i.bytes)) = some (some (.int .i64 0), 1, 8) := by kernel_rfl
theorem info_bool : (Tryd.prog.info? 4).map (fun i => (i.zero, i.size, i.bytes)) = some (some (.bool false), 1, 1) := by kernel_rfl
theorem info_u8 : (Tryd.prog.info? 5).map (fun i => (i.zero, i.size, i.bytes)) = some (some (.int .u8 0), 1, 1) := by kernel_rfl

/-! ### plain -/
def rowSum (v : Nat → Int) (W y : Nat) : Nat → Int
  | 0 => 0
  | x + 1 => rowSum v W y x + v (y * W + x)
def sat (v : Nat → Int) (W : Nat) : Nat → Nat → Int
  | 0, _ => 0
  | y + 1, x => sat v W y x + rowSum v W y x
def satAt (v : Nat → Int) (W k : Nat) : Int := sat v W (k / (W + 1)) (k % (W + 1))

theorem sat_zero (v : Nat → Int) (W : Nat) : ∀ y, sat v W y 0 = 0
  | 0 => rfl
  | y + 1 => by simp [sat, sat_zero v W y, rowSum]
theorem satAt_eq (v : Nat → Int) (W y x : Nat) (hx : x ≤ W) : satAt v W (y * (W + 1) + x) = sat v W y x := by
  unfold satAt
  rw [Nat.mul_comm, Nat.mul_add_div (by omega), Nat.div_eq_of_lt (by omega), Nat.mul_add_mod, Nat.mod_eq_of_lt (by omega), Nat.add_zero]
theorem rowSum_bd {v : Nat → Int} (hv : ∀ i, 0 ≤ v i ∧ v i ≤ 255) (W y : Nat) : ∀ x, 0 ≤ rowSum v W y x ∧ rowSum v W y x ≤ 255 * x
  | 0 => by simp [rowSum]
  | x + 1 => by
    have := rowSum_bd hv W y x
    have := hv (y * W + x)
    simp only [rowSum]
    omega
theorem sat_bd {v : Nat → Int} (hv : ∀ i, 0 ≤ v i ∧ v i ≤ 255) (W x : Nat) (hx : x ≤ 4000) : ∀ y, 0 ≤ sat v W y x ∧ sat v W y x ≤ 1020000 * y
  | 0 => by simp [sat]
  | y + 1 => by
    have := sat_bd hv W x hx y
    have := rowSum_bd hv W y x
    simp only [sat]
    omega
theorem satAt_bd {v : Nat → Int} (hv : ∀ i, 0 ≤ v i ∧ v i ≤ 255) (W H k : Nat) (hW : W ≤ 4000) (hH : H ≤ 4000) (hk : k < (W + 1) * (H + 1)) : 0 ≤ satAt v W k ∧ satAt v W k ≤ 5000000000 := by
  have h1 : k % (W + 1) < W + 1 := Nat.mod_lt _ (by omega)
  have h2 : k / (W + 1) < H + 1 := Nat.div_lt_of_lt_mul hk
  have := sat_bd hv W (k % (W + 1)) (by omega) (k / (W + 1))
  unfold satAt
  omega

theorem mul_step {a b y : Nat} (h : y < b) : y * a + a ≤ b * a := by
  have := Nat.mul_le_mul_right a (show y + 1 ≤ b from h)
  rw [Nat.add_mul, Nat.one_mul] at this
  exact this

end Go.Proofs.YtpjemcfcheijkaaDoor


/-! Slices that the call itself makes and appends to. No condition. -/
namespace Go.Proofs.YtpjemcfcheijkaaDoor
open Go.RowKit

theorem own_new {w : World} {base : Nat} {e : TypeId} {size n : Nat} {v : Value} {xs : List Value} (h : w.ownsRow base e size v n xs) : ∃ A c, v = .slice A n c ∧ Reads w size A n xs ∧ ∀ ad, A = some ad → base ≤ ad.block := by
  rcases h.2 with ⟨rfl, rfl⟩ | ⟨g, cap, cur, rfl, hb, hg, hn, hc, hs, ht⟩
  · exact ⟨none, 0, rfl, ⟨h.1, fun hk => absurd hk (by omega)⟩, fun _ h => by cases h⟩
  · exact ⟨_, _, rfl, ⟨h.1, fun _ => ⟨_, rfl, h.cells (g := g) rfl⟩⟩, fun ad h => by injection h with h; subst h; exact hb⟩
theorem own_reads {w : World} {base : Nat} {e : TypeId} {size n : Nat} {v : Value} {xs : List Value} (h : w.ownsRow base e size v n xs) : ∃ A c, v = .slice A n c ∧ Reads w size A n xs := by
  rcases h.2 with ⟨rfl, rfl⟩ | ⟨g, cap, cur, rfl, hb, hg, hn, hc, hs, ht⟩
  · exact ⟨none, 0, rfl, h.1, fun hk => absurd hk (by omega)⟩
  · exact ⟨_, _, rfl, h.1, fun _ => ⟨_, rfl, h.cells (g := g) rfl⟩⟩

theorem own_bl {w w' : World} {base : Nat} {e : TypeId} {size n : Nat} {v : Value} {xs : List Value} (h : w.ownsRow base e size v n xs) (hb : Bl w w') : w'.ownsRow base e size v n xs := by
  refine ⟨h.1, ?_⟩
  rcases h.2 with h2 | ⟨g, cap, cur, hv, hg, hh, r⟩
  · exact .inl h2
  · exact .inr ⟨g, cap, cur, hv, hg, (Below.block hb g (Array.getElem?_eq_some_iff.1 hh).1).trans hh, r⟩

/-- A literal slice of one element reads. -/
theorem Reads.lit {w : World} {g : Nat} {t : TypeId} {cs : Array Value} {n : Nat} (h : Blk w g t cs) (hn : cs.size = n) : Reads w 1 (some ⟨g, 0, none⟩) n cs.toList := h.reads n 1 (by simpa using hn)

section
variable {P : Program}

/-- 'append' to a slice of the call's own: what lay in w1 lies as it did; the row is owned anew. -/
theorem wpList_append_bl {w1 wr : World} {ops : Array Oper} {rest : List Oper} {o : Oper} {a : Act} {Q : Exit → Act → World → Prop} (hgd : o.guard = none) (s x : Operand) (t : TypeId)
    (ho : o.op = .call { callee := .builtin .append, args := #[s, x], argTypes := #[t, t] })
    (e : TypeId) (z : Value) (size bytes : Nat) (ht : P.underlying t = some (.slice e)) (hi : (P.info? e).map (fun i => (i.zero, i.size, i.bytes)) = some (some z, size, bytes))
    (hzs : z.cells.size = size) (hsz : 0 < size) (B : Nat)
    (v : Value) (n : Nat) (xs : List Value) (hs : a.eval s = v) (hb : Bl w1 wr) (hB : w1.heap.size ≤ B) (hBr : B ≤ wr.heap.size) (hown : wr.ownsRow B e size v n xs)
    (A : Option Addr) (m c : Nat) (news : List Value) (hx : a.eval x = .slice A m c) (hr : Reads wr size A m news) (h1 : ∀ u ∈ news, u.oneCell' = true)
    (h63 : n + m ≤ maxLen) (hbytes : (n + m) * bytes ≤ 140737488355328)
    (h : ∀ v' w', w'.ownsRow B e size v' (n + m) (xs ++ news) → Bl w1 w' → wr.grownBy w' v.ownBlock → wpList P ops Q rest (a.put o.dst v') w') : wpList P ops Q (o :: rest) a wr := by
  obtain ⟨i, hi', hz, hsize, hby⟩ := info_parts hi
  refine wpList_plain hgd fun K hK => ?_
  have main : ∃ v' w', (Builtin.append_ #[t, t] o.type #[v, .slice A m c]).run P wr = .ok v' w' ∧ w'.ownsRow B e size v' (n + m) (xs ++ news) ∧ wr.grownBy w' v.ownBlock := by
    rcases A with _ | ad
    · have hm : m = 0 := by
        rcases Nat.eq_zero_or_pos m with h0 | h0
        · exact h0
        · obtain ⟨ad, h, _⟩ := hr.2 h0
          cases h
      subst hm
      have hn : news = [] := List.eq_nil_of_length_eq_zero (by simpa using hr.1)
      subst hn
      refine ⟨v, wr, ?_, by simpa using hown, World.grownBy.refl wr _⟩
      rcases hown.2 with ⟨rfl, rfl⟩ | ⟨g, cap, cur, rfl, _, _, hnc, _⟩
      · simp [Builtin.append_, run_underlying ht, sizeOf, typeInfo, hi', Builtin.lenOf, Builtin.firstCells]
      · simp [Builtin.append_, run_underlying ht, sizeOf, typeInfo, hi', Builtin.lenOf, Builtin.firstCells, hnc, storeCells]
    · have hcells : ∀ j u, news[j]? = some u → wr.cell? (ad.add j) = some u := by
        intro j u hu
        rcases Nat.eq_zero_or_pos m with h0 | h0
        · subst h0
          have hn : news = [] := List.eq_nil_of_length_eq_zero (by simpa using hr.1)
          subst hn
          simp at hu
        · obtain ⟨ad', h, hc⟩ := hr.2 h0
          injection h with h
          subst h
          exact hc j u hu
      obtain ⟨v', w', hrun, h2, h3, _⟩ := run_append_own (P := P) wr B t o.type e i z size bytes ht hi' hz hsize hby hzs hsz v n xs hown ad m c news hr.1 hcells h1 h63 hbytes hBr
      exact ⟨v', w', hrun, h2, h3⟩
  obtain ⟨v', w', hrun, h2, h3⟩ := main
  have hbl : Bl w1 w' := Below.grown hb h3 (Nat.le_trans hB hBr) (fun k hk => Nat.le_trans hB (hown.lt k hk).1)
  unfold Oper.wp execOp
  simp only [ho, resolve, invoke, builtin, Sem.run_bind, Sem.run_pure, Result.andThen_ok, List.map_toArray, List.map_cons, List.map_nil, hs, hx, hrun]
  exact hK _ _ (h v' w' h2 hbl h3)

/-- One element of one cell, just laid by the statement itself. -/
theorem wpList_append_one {w1 wr : World} {ops : Array Oper} {rest : List Oper} {o : Oper} {a : Act} {Q : Exit → Act → World → Prop} (hgd : o.guard = none) (s x : Operand) (t : TypeId)
    (ho : o.op = .call { callee := .builtin .append, args := #[s, x], argTypes := #[t, t] })
    (e : TypeId) (z : Value) (bytes : Nat) (ht : P.underlying t = some (.slice e)) (hi : (P.info? e).map (fun i => (i.zero, i.size, i.bytes)) = some (some z, 1, bytes))
    (hzs : z.cells.size = 1) (B : Nat)
    (v : Value) (n : Nat) (xs : List Value) (hs : a.eval s = v) (u : Value) (hx : a.eval x = .slice (some ⟨wr.heap.size, 0, none⟩) 1 1) (h1 : u.oneCell' = true)
    (hb : Bl w1 wr) (hB : w1.heap.size ≤ B) (hBr : B ≤ wr.heap.size) (hown : wr.ownsRow B e 1 v n xs)
    (hbytes : (n + 1) * bytes ≤ 140737488355328) (h63 : n + 1 ≤ maxLen)
    (h : ∀ v' w', w'.ownsRow B e 1 v' (n + 1) (xs ++ [u]) → Bl w1 w' → (wr.alloc (.cells #[u] e)).grownBy w' v.ownBlock → wpList P ops Q rest (a.put o.dst v') w') : wpList P ops Q (o :: rest) a (wr.alloc (.cells #[u] e)) :=
  wpList_append_bl hgd s x t ho e z 1 bytes ht hi hzs (by omega) B v n xs hs (hb.alloc _) hB (by simp; omega) (hown.alloc _) _ 1 1 [u] hx (Reads.lit (Blk.new _ _ _) rfl)
    (fun y hy => by rw [List.mem_singleton.1 hy]; exact h1) h63 hbytes h
end

end Go.Proofs.YtpjemcfcheijkaaDoor


/-! Pages that are made by a function of places: in the program (a slice of the full length, written place by place) and in the reference (appended to). -/
namespace Go.Proofs.YtpjemcfcheijkaaDoor
open Go.RowKit

/-! ### plain -/
def grid {α : Type} (W H : Nat) (f : Nat → Nat → α) : List α := (List.range (W * H)).map fun i => f (i % W) (i / W)
theorem grid_length {α : Type} (W H : Nat) (f : Nat → Nat → α) : (grid W H f).length = W * H := by simp [grid]
theorem grid_at {α : Type} (W H : Nat) (f : Nat → Nat → α) (i : Nat) (h : i < W * H) : (grid W H f)[i]? = some (f (i % W) (i / W)) := by simp [grid, h]
theorem grid_congr {α : Type} (W H : Nat) (f g : Nat → Nat → α) (h : ∀ x y, x < W → y < H → f x y = g x y) : grid W H f = grid W H g := by
  unfold grid
  apply List.map_congr_left
  intro i hi
  have hi' : i < W * H := by simpa using hi
  have hW : 0 < W := by rcases Nat.eq_zero_or_pos W with h0 | h0; (subst h0; simp at hi'); exact h0
  exact h _ _ (Nat.mod_lt _ hW) (Nat.div_lt_of_lt_mul hi')
/-- The first m places of a page, row by row. -/
def gridTo {α : Type} (W : Nat) (f : Nat → Nat → α) (m : Nat) : List α := (List.range m).map fun i => f (i % W) (i / W)
theorem gridTo_succ {α : Type} (W : Nat) (f : Nat → Nat → α) (con : α → Value) (y x : Nat) (hx : x < W) : (gridTo W f (y * W + x + 1)).map con = (gridTo W f (y * W + x)).map con ++ [con (f x y)] := by
  have ex : (y * W + x) % W = x := by rw [Nat.mul_comm, Nat.mul_add_mod, Nat.mod_eq_of_lt hx]
  have ey : (y * W + x) / W = y := by rw [Nat.mul_comm, Nat.mul_add_div (by omega), Nat.div_eq_of_lt hx, Nat.add_zero]
  simp [gridTo, List.range_succ, ex, ey]

/-- A page with its cells. -/
def IsPage (w : World) (v : Value) (W H : Nat) (cells : List Value) : Prop := ∃ A c, v = .agg #[.int .i64 W, .int .i64 H, .slice A (W * H) c] ∧ Reads w 1 A (W * H) cells
theorem IsPage.bl {w w' : World} {v : Value} {W H : Nat} {cells : List Value} (h : IsPage w v W H cells) (hb : Bl w w') : IsPage w' v W H cells :=
  let ⟨A, c, e, hr⟩ := h
  ⟨A, c, e, hr.bl hb⟩

/-- A page in new memory: from block B on. -/
def NPage (B : Nat) (w : World) (v : Value) (W H : Nat) (cells : List Value) : Prop := ∃ A c, v = .agg #[.int .i64 W, .int .i64 H, .slice A (W * H) c] ∧ Reads w 1 A (W * H) cells ∧ ∀ ad, A = some ad → B ≤ ad.block
theorem NPage.is {B : Nat} {w : World} {v : Value} {W H : Nat} {cells : List Value} (h : NPage B w v W H cells) : IsPage w v W H cells :=
  let ⟨A, c, e, hr, _⟩ := h
  ⟨A, c, e, hr⟩
theorem NPage.bl {B : Nat} {w w' : World} {v : Value} {W H : Nat} {cells : List Value} (h : NPage B w v W H cells) (hb : Bl w w') : NPage B w' v W H cells :=
  let ⟨A, c, e, hr, hn⟩ := h
  ⟨A, c, e, hr.bl hb, hn⟩
theorem NPage.mono {B B' : Nat} {w : World} {v : Value} {W H : Nat} {cells : List Value} (h : NPage B w v W H cells) (hb : B' ≤ B) : NPage B' w v W H cells :=
  let ⟨A, c, e, hr, hn⟩ := h
  ⟨A, c, e, hr, fun ad h => Nat.le_trans hb (hn ad h)⟩
theorem Reads.store {B : Nat} {w : World} {size n : Nat} {A : Option Addr} {xs : List Value} (h : Reads w size A n xs) (hn : ∀ ad, A = some ad → B ≤ ad.block) {p : Addr} (hp : p.block < B) (u : Value) : Reads (w.setCell p u) size A n xs :=
  ⟨h.1, fun hk => by
    obtain ⟨ad, e, hc⟩ := h.2 hk
    exact ⟨ad, e, fun j x hx => by rw [World.cell?_setCell_other w p _ u (fun e' => by have h1 := hn ad e; have h2 := congrArg Addr.block e'; rw [block_of_add] at h2; omega)]; exact hc j x hx⟩⟩
theorem NPage.store {B : Nat} {w : World} {v : Value} {W H : Nat} {cells : List Value} (h : NPage B w v W H cells) {p : Addr} (hp : p.block < B) (u : Value) : NPage B (w.setCell p u) v W H cells :=
  let ⟨A, c, e, hr, hn⟩ := h
  ⟨A, c, e, hr.store hn hp u, hn⟩

/-- A function value that tells a place's value. -/
def Paints {α : Type} (P : Program) (k : FuncId) (cap : Array Value) (con : α → Value) (w : World) (W H : Nat) (f : Nat → Nat → α) : Prop :=
  (∀ args w, (callFunc k args).run P w = .ok (.enter k args) w) ∧
  ∀ wx (x y : Nat), Bl w wx → x < W → y < H → Calls P k (#[.int .i64 x, .int .i64 y] ++ cap) wx fun e w' => e = .returned (con (f x y)) ∧ Bl wx w'
theorem Paints.bl {α : Type} {P : Program} {k : FuncId} {cap : Array Value} {con : α → Value} {w w' : World} {W H : Nat} {f : Nat → Nat → α} (h : Paints P k cap con w W H f) (hb : Bl w w') : Paints P k cap con w' W H f :=
  ⟨h.1, fun wx x y hx => h.2 wx x y (hb.trans hx)⟩

theorem place_lt {W H x y : Nat} (hx : x < W) (hy : y < H) : y * W + x < W * H := by
  have m := mul_step (a := W) hy
  rw [Nat.mul_comm W H]; omega

/-! ### Bits -/
def madeInv (w : World) (W H : Nat) (f : Nat → Nat → Bool) (wr : World) (n : Nat) : Prop :=
  Bl w wr ∧ (∃ cs : Array Value, Blk wr (w.heap.size + 1) 4 cs ∧ cs.size = W * H ∧ ∀ i, i < n → cs[i]? = some (Value.bool (f (i % W) (i / W)))) ∧
    Blk wr (w.heap.size + 1 + 1) 27 #[.int .i64 W, .int .i64 H, .slice (some ⟨w.heap.size + 1, 0, none⟩) (W * H) (W * H)] ∧
    Blk wr w.heap.size 27 #[.int .i64 0, .int .i64 0, .slice none 0 0]

theorem madeInv.start (w : World) (W H : Nat) (f : Nat → Nat → Bool) : madeInv w W H f (((w.alloc (.cells #[.int .i64 0, .int .i64 0, .slice none 0 0] 27)).alloc (.cells (madeCells #[.bool false] (W * H)) 4)).alloc
    (.cells #[.int .i64 W, .int .i64 H, .slice (some ⟨w.heap.size + 1, 0, none⟩) (W * H) (W * H)] 27)) 0 := by
  have b0 := Blk.new w 27 #[.int .i64 0, .int .i64 0, .slice none 0 0]
  have b1 := Blk.new (w.alloc (.cells #[.int .i64 0, .int .i64 0, .slice none 0 0] 27)) 4 (madeCells #[.bool false] (W * H))
  have b2 := Blk.new ((w.alloc (.cells #[.int .i64 0, .int .i64 0, .slice none 0 0] 27)).alloc (.cells (madeCells #[.bool false] (W * H)) 4)) 27 #[.int .i64 W, .int .i64 H, .slice (some ⟨w.heap.size + 1, 0, none⟩) (W * H) (W * H)]
  simp only [World.size_alloc] at b1 b2
  exact ⟨(((Bl.refl w).alloc _).alloc _).alloc _, ⟨_, b1.alloc _, size_madeCells _ _, fun i hi => absurd hi (by omega)⟩, b2, (b0.alloc _).alloc _⟩

def MadeInv (w : World) (W H : Nat) (f : Nat → Nat → Bool) (wr : World) (n : Nat) : Prop :=
  Bl w wr ∧ ∃ v, Blk wr w.heap.size 27 #[.int .i64 0, .int .i64 0, .slice none 0 0] ∧ Blk wr (w.heap.size + 1) 27 #[.int .i64 W, .int .i64 H, v] ∧
    w.heap.size + 2 ≤ wr.heap.size ∧ wr.ownsRow (w.heap.size + 2) 4 1 v n ((gridTo W f n).map Value.bool)

/-! ### Gray -/
end Go.Proofs.YtpjemcfcheijkaaDoor


/-! Whether two pages are the same; pages without anything; 'small'. -/
namespace Go.Proofs.YtpjemcfcheijkaaDoor
open Go.RowKit

theorem eq_of_cells {α : Type} (xs ys : List α) (hl : xs.length = ys.length) (h : ∀ j, j < xs.length → xs[j]? = ys[j]?) : xs = ys := by
  apply List.ext_getElem?
  intro i
  rcases Nat.lt_or_ge i xs.length with hi | hi
  · exact h i hi
  · rw [List.getElem?_eq_none hi, List.getElem?_eq_none (by omega)]

def smallB (W H : Int) : Bool := decide (0 ≤ W ∧ W ≤ 200 ∧ 0 ≤ H ∧ H ≤ 200 ∧ W * H ≤ 10000)

/-! ### slices.Equal at bool -/
/-! The same page. -/
/-! Nothing at all. -/
/-! ### slices.Equal at byte -/
/-! The same page. -/
/-! Nothing at all. -/
/-! ### bitsIs -/
/-- A function value that makes a page. -/
def MakesPage (P : Program) (k : FuncId) (cap : Array Value) (w : World) (W H : Nat) (cells : List Value) : Prop :=
  (∀ args w, (callFunc k args).run P w = .ok (.enter k args) w) ∧ ∀ wx, Bl w wx → Calls P k cap wx fun e w' => ∃ v, e = .returned v ∧ IsPage w' v W H cells ∧ Bl wx w'

end Go.Proofs.YtpjemcfcheijkaaDoor


/-! The sum of a box, the square around a place, the means of a page. -/
namespace Go.Proofs.YtpjemcfcheijkaaDoor
open Go.RowKit

/-! ### plain -/
/-- The sum of the values of a box: rows y to y + h, columns x to x + l. -/
def boxSum (v : Nat → Int) (W x y l h : Nat) : Int := sat v W (y + h) (x + l) - sat v W y (x + l) - sat v W (y + h) x + sat v W y x

theorem rowSum_mono {v : Nat → Int} (hv : ∀ i, 0 ≤ v i ∧ v i ≤ 255) (W y x : Nat) : ∀ l, rowSum v W y x ≤ rowSum v W y (x + l)
  | 0 => Int.le_refl _
  | l + 1 => Int.le_trans (rowSum_mono hv W y x l) (by rw [← Nat.add_assoc]; simp only [rowSum]; have := hv (y * W + (x + l)); omega)

/-! ### (*Sums).In -/
/-! ### (*Sums).Around -/
/-- From which place on, how far, the square around a place goes. -/
def from_ (x r : Nat) : Nat := x - r
def long_ (x r W : Nat) : Nat := min (x + r + 1) W - (x - r)
theorem long_pos {x r W : Nat} (hx : x < W) : 1 ≤ long_ x r W ∧ from_ x r + long_ x r W ≤ W := by unfold long_ from_; omega

end Go.Proofs.YtpjemcfcheijkaaDoor


/-! page.Means; slices.Equal of numbers; blank pages. -/
namespace Go.Proofs.YtpjemcfcheijkaaDoor
open Go.RowKit

/-- A byte list reads as bytes. -/
def Bytes (zs : List Int) : Prop := ∀ z ∈ zs, 0 ≤ z ∧ z ≤ 255
def valOf (zs : List Int) (i : Nat) : Int := zs.getD i 0
theorem Bytes.at {zs : List Int} (h : Bytes zs) (i : Nat) : 0 ≤ valOf zs i ∧ valOf zs i ≤ 255 := by
  unfold valOf
  rcases Nat.lt_or_ge i zs.length with hl | hl
  · have := h zs[i] (List.getElem_mem hl)
    simpa [List.getD, hl] using this
  · simp [List.getD, List.getElem?_eq_none hl]

def meansErr (W H : Int) (n : Nat) (r : Int) : Int := if pageErr W H n = 0 then (if inB r 0 200 then 0 else 3) else pageErr W H n
theorem meansErr_first (W H : Int) (n : Nat) (r : Int) : firstNZ [pageErr W H n, whenI (!inB r 0 200) 3] = meansErr W H n r := by
  unfold meansErr
  by_cases h : pageErr W H n = 0
  · rw [if_pos h, h]
    cases inB r 0 200 <;> simp [firstNZ, whenI]
  · rw [if_neg h]; simp [firstNZ, h]

theorem boxSum_succ (v : Nat → Int) (W x y l h : Nat) : boxSum v W x y l (h + 1) = boxSum v W x y l h + (rowSum v W (y + h) (x + l) - rowSum v W (y + h) x) := by
  unfold boxSum
  rw [← Nat.add_assoc]
  simp only [sat]
  omega
theorem rowDiff_bd {v : Nat → Int} (hv : ∀ i, 0 ≤ v i ∧ v i ≤ 255) (W y x : Nat) : ∀ l, 0 ≤ rowSum v W y (x + l) - rowSum v W y x ∧ rowSum v W y (x + l) - rowSum v W y x ≤ 255 * l
  | 0 => by simp
  | l + 1 => by
    have := rowDiff_bd hv W y x l
    have := hv (y * W + (x + l))
    rw [← Nat.add_assoc]
    simp only [rowSum]
    omega
theorem boxSum_bd {v : Nat → Int} (hv : ∀ i, 0 ≤ v i ∧ v i ≤ 255) (W x y l : Nat) (hl : l ≤ 4000) : ∀ h, 0 ≤ boxSum v W x y l h ∧ boxSum v W x y l h ≤ 1020000 * h
  | 0 => by simp [boxSum]; omega
  | h + 1 => by
    have := boxSum_bd hv W x y l hl h
    have := rowDiff_bd hv W (y + h) x l
    rw [boxSum_succ]
    omega

/-- The mean around place number i. -/
def meanAt (zs : List Int) (W H r i : Nat) : Int :=
  roundI (boxSum (valOf zs) W (from_ (i % W) r) (from_ (i / W) r) (long_ (i % W) r W) (long_ (i / W) r H)) ((long_ (i % W) r W : Int) * (long_ (i / W) r H : Int))

def MeansInv (w : World) (B : Nat) (zs : List Int) (W H r : Nat) (wr : World) (m : Nat) : Prop :=
  Bl w wr ∧ ∃ cs : Array Value, Blk wr B 3 cs ∧ cs.size = W * H ∧ ∀ k, k < m → cs[k]? = some (.int .i64 (meanAt zs W H r k))

end Go.Proofs.YtpjemcfcheijkaaDoor


/-! At, halving and pasting. -/
namespace Go.Proofs.YtpjemcfcheijkaaDoor
open Go.RowKit

/-! ### plain -/
/-- The ink at a place, also beyond the page. -/
def atI (bs : List Bool) (W H x y : Int) : Bool := decide (0 ≤ x ∧ x < W ∧ 0 ≤ y ∧ y < H) && bs.getD (y.toNat * W.toNat + x.toNat) false
def pix (bs : List Bool) (W x y : Nat) : Bool := bs.getD (y * W + x) false
theorem atI_in (bs : List Bool) (W H x y : Nat) (hx : x < W) (hy : y < H) : atI bs W H x y = pix bs W x y := by
  unfold atI pix
  have : decide (0 ≤ (x : Int) ∧ (x : Int) < W ∧ 0 ≤ (y : Int) ∧ (y : Int) < H) = true := by simp; omega
  rw [this]; simp
theorem atI_out (bs : List Bool) (W H x y : Int) (h : ¬ (0 ≤ x ∧ x < W ∧ 0 ≤ y ∧ y < H)) : atI bs W H x y = false := by
  unfold atI; simp only [h]; simp

/-- The cell of a place. -/
theorem Reads.place {w : World} {A : Option Addr} {W H : Nat} {bs : List Bool} (h : Reads w 1 A (W * H) (bs.map .bool)) {x y : Nat} (hx : x < W) (hy : y < H) :
    ∃ ad, A = some ad ∧ w.cell? (ad.add (y * W + x)) = some (.bool (pix bs W x y)) := by
  have hk := place_lt hx hy
  obtain ⟨ad, u, e, hu, hc⟩ := h.at_ hk
  refine ⟨ad, e, ?_⟩
  have hl : y * W + x < bs.length := by have := h.1; simp at this; omega
  have hu' : u = .bool (pix bs W x y) := by simpa [pix, List.getD, hl] using hu.symm
  rw [hc, hu']

/-! ### bedref2.At -/
set_option maxRecDepth 100000 in
set_option maxHeartbeats 1000000 in
theorem at_any (W H : Nat) (A : Option Addr) (c : Nat) (bs : List Bool) (x y : Int) (w : World) (hr : Reads w 1 A (W * H) (bs.map .bool)) (hW : W ≤ 4000) (hH : H ≤ 4000) :
    Calls Tryd.prog 53 #[.agg #[.int .i64 W, .int .i64 H, .slice A (W * H) c], .int .i64 x, .int .i64 y] w fun e w' => e = .returned (.bool (atI bs W H x y)) ∧ Bl w w' := by
  cases h1 : inB x 0 ((W : Int) - 1)
  case false =>
    have ha : atI bs W H x y = false := atI_out _ _ _ _ _ (by have := inB_false.1 h1; omega)
    have Ha := Lib.hid ha; clear ha hr
    go_enter Tryd.func53, Tryd.ntmps53
    go_wp2_with (go_at_call 10; refine (in_any _ _ _ _).mono ?_; rintro e w' ⟨rfl, rfl⟩)
    go_ret
    exact ⟨ret_bool Ha.out.symm, (Bl.refl _).alloc _⟩
  case true =>
    cases h2 : inB y 0 ((H : Int) - 1)
    case false =>
      have ha : atI bs W H x y = false := atI_out _ _ _ _ _ (by have := inB_false.1 h2; omega)
      have Ha := Lib.hid ha; clear ha hr
      go_enter Tryd.func53, Tryd.ntmps53
      go_wp2_with (go_at_call 10; refine (in_any _ _ _ _).mono ?_; rintro e w' ⟨rfl, rfl⟩)
      go_ret
      exact ⟨ret_bool Ha.out.symm, (Bl.refl _).alloc _⟩
    case true =>
      obtain ⟨a1, a2⟩ := inB_true.1 h1
      obtain ⟨b1, b2⟩ := inB_true.1 h2
      obtain ⟨x, rfl⟩ := Int.eq_ofNat_of_zero_le a1
      obtain ⟨y, rfl⟩ := Int.eq_ofNat_of_zero_le b1
      have hx : x < W := by omega
      have hy : y < H := by omega
      have ha := atI_in bs W H x y hx hy
      obtain ⟨ad, rfl, hc⟩ := hr.place hx hy
      have hk := place_lt hx hy
      obtain ⟨k, hkk⟩ : ∃ k, k = y * W + x := ⟨_, rfl⟩
      rw [← hkk] at hc hk
      have ek : (y : Int) * (W : Int) + (x : Int) = (k : Int) := by rw [hkk]; simp
      have hkl : (k : Int) < (W : Int) * (H : Int) := by have := Int.natCast_mul W H; omega
      have hq : (0 : Int) ≤ (y : Int) * (W : Int) ∧ (y : Int) * (W : Int) ≤ 16000000 := by
        have h5 := Int.natCast_mul y W
        have h6 := Nat.mul_le_mul (show y ≤ 4000 by omega) hW
        omega
      have hlt : ad.block < w.heap.size := by have := World.block_lt_of_cell? w _ hc; rwa [block_of_add] at this
      have hc' : ∀ o, (w.alloc o).cell? (ad.add k) = some (.bool (pix bs W x y)) := fun o => ((Bl.refl w).alloc o).at hc
      have Ha := Lib.hid ha; have Hkk := Lib.hid hkk
      clear ha hkk hr
      go_enter Tryd.func53, Tryd.ntmps53
      go_wp2_with (go_at_call 10; refine (in_any _ _ _ _).mono ?_; rintro e w' ⟨rfl, rfl⟩)
      go_ret
      exact ⟨ret_bool Ha.out.symm, (Bl.refl _).alloc _⟩

end Go.Proofs.YtpjemcfcheijkaaDoor


/-! Sums of numbers, tables of numbers in memory. -/
namespace Go.Proofs.YtpjemcfcheijkaaDoor
open Go.RowKit

/-! ### sums -/
def sumN (f : Nat → Nat) : Nat → Nat
  | 0 => 0
  | n + 1 => sumN f n + f n
theorem sumN_congr {f g : Nat → Nat} : ∀ {n : Nat}, (∀ i, i < n → f i = g i) → sumN f n = sumN g n
  | 0, _ => rfl
  | n + 1, h => by
    unfold sumN
    rw [sumN_congr (n := n) (fun i hi => h i (by omega)), h n (by omega)]
theorem sumN_zero (n : Nat) : sumN (fun _ => 0) n = 0 := by
  induction n with
  | zero => rfl
  | succ n ih => simp [sumN, ih]
theorem sumN_add (f g : Nat → Nat) (n : Nat) : sumN (fun i => f i + g i) n = sumN f n + sumN g n := by
  induction n with
  | zero => rfl
  | succ n ih => simp only [sumN, ih]; omega
theorem sumN_split (f : Nat → Nat) (m n : Nat) : sumN f (m + n) = sumN f m + sumN (fun i => f (m + i)) n := by
  induction n with
  | zero => rfl
  | succ n ih => rw [← Nat.add_assoc]; simp only [sumN, ih]; omega
theorem sumN_swap (f : Nat → Nat → Nat) (W H : Nat) : sumN (fun x => sumN (fun y => f x y) H) W = sumN (fun y => sumN (fun x => f x y) W) H := by
  induction W with
  | zero => simp [sumN, sumN_zero]
  | succ W ih => simp only [sumN, ih, sumN_add]
theorem sumN_flat (g : Nat → Nat) (W H : Nat) : sumN g (H * W) = sumN (fun y => sumN (fun x => g (y * W + x)) W) H := by
  induction H with
  | zero => simp [sumN]
  | succ H ih => rw [Nat.add_mul, Nat.one_mul, sumN_split, ih]; rfl
theorem sumN_le {f : Nat → Nat} {c : Nat} (h : ∀ i, f i ≤ c) (n : Nat) : sumN f n ≤ n * c := by
  induction n with
  | zero => simp [sumN]
  | succ n ih => have := h n; simp only [sumN, Nat.add_mul]; omega
theorem sumN_mono {f g : Nat → Nat} (h : ∀ i, f i ≤ g i) (n : Nat) : sumN f n ≤ sumN g n := by
  induction n with
  | zero => exact Nat.le_refl _
  | succ n ih => have := h n; simp only [sumN]; omega
/-- Places by rows, or by columns. -/
theorem sumN_cols (g : Nat → Nat) (W H : Nat) : sumN (fun x => sumN (fun y => g (y * W + x)) H) W = sumN g (W * H) := by
  rw [Nat.mul_comm, sumN_flat, sumN_swap]

/-! ### a table of numbers in memory -/
def tabI (N : Nat) (f : Nat → Int) : Array Value := ((List.range N).map fun k => Value.int .i64 (f k)).toArray
theorem tabI_size (N : Nat) (f : Nat → Int) : (tabI N f).size = N := by simp [tabI]
theorem tabI_get {N : Nat} (f : Nat → Int) {k : Nat} (h : k < N) : (tabI N f)[k]? = some (.int .i64 (f k)) := by simp [tabI, h]
theorem tabI_congr {N : Nat} {f g : Nat → Int} (h : ∀ k, k < N → f k = g k) : tabI N f = tabI N g := by
  unfold tabI
  congr 1
  exact List.map_congr_left fun k hk => by rw [h k (List.mem_range.1 hk)]
theorem tabI_set {N : Nat} {f g : Nat → Int} {a : Nat} {v : Int} (hg : ∀ k, k < N → g k = if k = a then v else f k) : (tabI N f).setIfInBounds a (.int .i64 v) = tabI N g := by
  apply Array.ext_getElem?
  intro i
  rcases Nat.lt_or_ge i N with h | h
  · rw [tabI_get g h, hg i h]
    by_cases e : a = i
    · subst e
      simp [tabI, h]
    · rw [Array.getElem?_setIfInBounds_ne e, tabI_get f h, if_neg (fun e' => e e'.symm)]
  · rw [Array.getElem?_eq_none (by simp [tabI_size]; exact h), Array.getElem?_eq_none (by rw [tabI_size]; exact h)]
theorem tabI_made (N : Nat) : madeCells #[.int .i64 0] N = tabI N (fun _ => 0) := by
  apply Array.ext_getElem?
  intro i
  rcases Nat.lt_or_ge i N with h | h
  · rw [tabI_get _ h]; simp [madeCells, h, Nat.mod_one]
  · rw [Array.getElem?_eq_none (by rw [size_madeCells]; exact h), Array.getElem?_eq_none (by rw [tabI_size]; exact h)]
def tabL (N : Nat) (f : Nat → Int) : List Int := (List.range N).map f
theorem tabL_len (N : Nat) (f : Nat → Int) : (tabL N f).length = N := by simp [tabL]
theorem tabL_get {N : Nat} (f : Nat → Int) {k : Nat} (h : k < N) : (tabL N f)[k]? = some (f k) := by simp [tabL, h]
theorem tabL_congr {N : Nat} {f g : Nat → Int} (h : ∀ k, k < N → f k = g k) : tabL N f = tabL N g :=
  List.map_congr_left fun k hk => h k (List.mem_range.1 hk)
theorem Blk.tabReads {w : World} {g : Nat} {t : TypeId} {N : Nat} {f : Nat → Int} (h : Blk w g t (tabI N f)) : Reads w 1 (some ⟨g, 0, none⟩) N ((tabL N f).map (.int .i64)) := by
  have := h.reads N 1 (by rw [tabI_size]; omega)
  have e : (tabI N f).toList = (tabL N f).map (.int .i64) := by simp [tabI, tabL, Function.comp_def]
  rwa [e] at this
theorem Blk.tabAt {w : World} {g : Nat} {t : TypeId} {N : Nat} {f : Nat → Int} (h : Blk w g t (tabI N f)) {k : Nat} (hk : k < N) : w.cell? ⟨g, k, none⟩ = some (.int .i64 (f k)) := (h.cell k).trans (tabI_get f hk)
theorem Blk.tabSet {w : World} {g : Nat} {t : TypeId} {N : Nat} {f f' : Nat → Int} (h : Blk w g t (tabI N f)) (a : Nat) (v : Int) (hg : ∀ k, k < N → f' k = if k = a then v else f k) : Blk (w.setCell ⟨g, a, none⟩ (.int .i64 v)) g t (tabI N f') := by
  have := h.set_ a (.int .i64 v)
  rwa [tabI_set hg] at this
theorem Reads.intAt {w : World} {A : Option Addr} {n k : Nat} {f : Nat → Int} (h : Reads w 1 A n ((tabL n f).map (.int .i64))) (hk : k < n) : ∃ ad, A = some ad ∧ w.cell? (ad.add k) = some (.int .i64 (f k)) := by
  obtain ⟨ad, u, e, hu, hc⟩ := h.at_ hk
  refine ⟨ad, e, ?_⟩
  rw [hc, ← hu]
  simp [tabL, hk]
end Go.Proofs.YtpjemcfcheijkaaDoor


/-! The plain law of leaning and of profiles. -/
namespace Go.Proofs.YtpjemcfcheijkaaDoor
open Go.RowKit

/-! ### a number that leans -/
def shiftI (n : Int) : Int := if n < 0 then -roundI (-n) 1024 else roundI n 1024
theorem shiftI_bd {n : Int} (h : -2000000 ≤ n ∧ n ≤ 2000000) : -2000 ≤ shiftI n ∧ shiftI n ≤ 2000 := by
  unfold shiftI roundI
  split <;> omega
def leanI (W : Nat) (n : Int) (x : Nat) : Int := shiftI (n * ((x : Int) - ((W : Int) - 1) / 2))
theorem leanArg_bd {W : Nat} {n : Int} {x : Nat} (hW : W ≤ 4000) (hn : -256 ≤ n ∧ n ≤ 256) (hx : x < W) : -2000000 ≤ n * ((x : Int) - ((W : Int) - 1) / 2) ∧ n * ((x : Int) - ((W : Int) - 1) / 2) ≤ 2000000 := by
  obtain ⟨d, hd⟩ : ∃ d, d = (x : Int) - ((W : Int) - 1) / 2 := ⟨_, rfl⟩
  rw [← hd]
  have h1 : -4000 ≤ d ∧ d ≤ 4000 := by omega
  have h2 : (n * d).natAbs ≤ 256 * 4000 := by
    rw [Int.natAbs_mul]
    exact Nat.mul_le_mul (by omega) (by omega)
  omega
theorem leanI_bd {W : Nat} {n : Int} {x : Nat} (hW : W ≤ 4000) (hn : -256 ≤ n ∧ n ≤ 256) (hx : x < W) : -2000 ≤ leanI W n x ∧ leanI W n x ≤ 2000 :=
  shiftI_bd (leanArg_bd hW hn hx)

/-! ### places of ink -/
def spotL (bs : List Bool) : Nat → List Nat
  | 0 => []
  | m + 1 => spotL bs m ++ (if bs.getD m false then [m] else [])
theorem spotL_lt (bs : List Bool) : ∀ (m : Nat) (i : Nat), i ∈ spotL bs m → i < m
  | 0, i, h => by simp [spotL] at h
  | m + 1, i, h => by
    simp only [spotL, List.mem_append] at h
    rcases h with h | h
    · have := spotL_lt bs m i h; omega
    · split at h <;> simp at h; omega
theorem spotL_len (bs : List Bool) (m : Nat) : (spotL bs m).length ≤ m := by
  induction m with
  | zero => simp [spotL]
  | succ m ih => simp only [spotL, List.length_append]; split <;> simp <;> omega
def b1 (b : Bool) : Nat := if b then 1 else 0
theorem spotL_count (bs : List Bool) (p : Nat → Bool) (m : Nat) : (spotL bs m).countP p = sumN (fun i => b1 (bs.getD i false && p i)) m := by
  induction m with
  | zero => rfl
  | succ m ih =>
    simp only [spotL, List.countP_append, ih, sumN]
    cases bs.getD m false <;> cases hp : p m <;> simp [b1, hp]

/-- The place in the profile. -/
def profAt (W H : Nat) (n : Int) (i : Nat) : Int := ((H / 2 : Nat) : Int) + ((i / W : Nat) : Int) + leanI W n (i % W)
def profK (W H : Nat) (n : Int) (k i : Nat) : Bool := decide (profAt W H n i = (k : Int))
/-- How much ink row k of the profile has. -/
def profN (bs : List Bool) (W H : Nat) (n : Int) (k : Nat) : Nat := sumN (fun i => b1 (bs.getD i false && profK W H n k i)) (W * H)
/-- .. as far as columns and rows are seen. -/
def profC (bs : List Bool) (W H : Nat) (n : Int) (x y : Nat) (k : Nat) : Nat :=
  sumN (fun x' => sumN (fun y' => b1 (bs.getD (y' * W + x') false && profK W H n k (y' * W + x'))) H) x + sumN (fun y' => b1 (bs.getD (y' * W + x) false && profK W H n k (y' * W + x))) y
theorem profC_start (bs : List Bool) (W H : Nat) (n : Int) (k : Nat) : profC bs W H n 0 0 k = 0 := rfl
theorem profC_col (bs : List Bool) (W H : Nat) (n : Int) (x k : Nat) : profC bs W H n x H k = profC bs W H n (x + 1) 0 k := rfl
theorem profC_end (bs : List Bool) (W H : Nat) (n : Int) (k : Nat) : profC bs W H n W 0 k = profN bs W H n k := by
  unfold profC profN
  rw [sumN_cols (fun i => b1 (bs.getD i false && profK W H n k i))]
  rfl
theorem profC_step (bs : List Bool) (W H : Nat) (n : Int) (x y k : Nat) : profC bs W H n x (y + 1) k = profC bs W H n x y k + b1 (bs.getD (y * W + x) false && profK W H n k (y * W + x)) := by
  unfold profC; simp only [sumN]; omega
theorem profN_le (bs : List Bool) (W H : Nat) (n : Int) (k : Nat) : profN bs W H n k ≤ W * H := by
  have := sumN_le (f := fun i => b1 (bs.getD i false && profK W H n k i)) (c := 1) (fun i => by unfold b1; split <;> omega) (W * H)
  simpa [profN] using this
def sqI (l : List Int) : Int := (l.map fun n => n * n).sum
end Go.Proofs.YtpjemcfcheijkaaDoor


/-! The plain law of ink that is moved place by place. -/
namespace Go.Proofs.YtpjemcfcheijkaaDoor
open Go.RowKit

/-! ### a table of bools in memory -/
def tabB (N : Nat) (f : Nat → Bool) : Array Value := ((List.range N).map fun k => Value.bool (f k)).toArray
theorem tabB_size (N : Nat) (f : Nat → Bool) : (tabB N f).size = N := by simp [tabB]
theorem tabB_get {N : Nat} (f : Nat → Bool) {k : Nat} (h : k < N) : (tabB N f)[k]? = some (.bool (f k)) := by simp [tabB, h]
theorem tabB_congr {N : Nat} {f g : Nat → Bool} (h : ∀ k, k < N → f k = g k) : tabB N f = tabB N g := by
  unfold tabB
  congr 1
  exact List.map_congr_left fun k hk => by rw [h k (List.mem_range.1 hk)]
theorem tabB_set {N : Nat} {f g : Nat → Bool} {a : Nat} {v : Bool} (hg : ∀ k, k < N → g k = if k = a then v else f k) : (tabB N f).setIfInBounds a (.bool v) = tabB N g := by
  apply Array.ext_getElem?
  intro i
  rcases Nat.lt_or_ge i N with h | h
  · rw [tabB_get g h, hg i h]
    by_cases e : a = i
    · subst e
      simp [tabB, h]
    · rw [Array.getElem?_setIfInBounds_ne e, tabB_get f h, if_neg (fun e' => e e'.symm)]
  · rw [Array.getElem?_eq_none (by simp [tabB_size]; exact h), Array.getElem?_eq_none (by rw [tabB_size]; exact h)]
theorem tabB_made (N : Nat) : madeCells #[.bool false] N = tabB N (fun _ => false) := by
  apply Array.ext_getElem?
  intro i
  rcases Nat.lt_or_ge i N with h | h
  · rw [tabB_get _ h]; simp [madeCells, h, Nat.mod_one]
  · rw [Array.getElem?_eq_none (by rw [size_madeCells]; exact h), Array.getElem?_eq_none (by rw [tabB_size]; exact h)]
theorem Blk.tabReadsB {w : World} {g : Nat} {t : TypeId} {N : Nat} {f : Nat → Bool} (h : Blk w g t (tabB N f)) : Reads w 1 (some ⟨g, 0, none⟩) N (((List.range N).map f).map .bool) := by
  have := h.reads N 1 (by rw [tabB_size]; omega)
  have e : (tabB N f).toList = ((List.range N).map f).map .bool := by simp [tabB, Function.comp_def]
  rwa [e] at this
theorem Blk.tabAtB {w : World} {g : Nat} {t : TypeId} {N : Nat} {f : Nat → Bool} (h : Blk w g t (tabB N f)) {k : Nat} (hk : k < N) : w.cell? ⟨g, k, none⟩ = some (.bool (f k)) := (h.cell k).trans (tabB_get f hk)
theorem Blk.tabSetB {w : World} {g : Nat} {t : TypeId} {N : Nat} {f f' : Nat → Bool} (h : Blk w g t (tabB N f)) (a : Nat) (v : Bool) (hg : ∀ k, k < N → f' k = if k = a then v else f k) : Blk (w.setCell ⟨g, a, none⟩ (.bool v)) g t (tabB N f') := by
  have := h.set_ a (.bool v)
  rwa [tabB_set hg] at this

/-! ### moving -/
theorem atI_ways' (cs : List Bool) (W H : Nat) (x y : Int) : atI cs W H x y = false ∨ ∃ X Y : Nat, x = (X : Int) ∧ y = (Y : Int) ∧ X < W ∧ Y < H ∧ atI cs W H x y = pix cs W X Y := by
  by_cases c : 0 ≤ x ∧ x < W ∧ 0 ≤ y ∧ y < H
  · obtain ⟨c1, c2, c3, c4⟩ := c
    obtain ⟨X, rfl⟩ := Int.eq_ofNat_of_zero_le c1
    obtain ⟨Y, rfl⟩ := Int.eq_ofNat_of_zero_le c3
    exact Or.inr ⟨X, Y, rfl, rfl, by omega, by omega, atI_in cs W H X Y (by omega) (by omega)⟩
  · exact Or.inl (atI_out cs W H x y c)
def hitTo (bs : List Bool) (W : Nat) (T : Nat → Nat → Int × Int) : Nat → Nat → Bool
  | 0, _ => false
  | m + 1, k => hitTo bs W T m k || (bs.getD m false && decide (T (m % W) (m / W) = (((k % W : Nat) : Int), ((k / W : Nat) : Int))))
theorem hitTo_iff (bs : List Bool) (W : Nat) (T : Nat → Nat → Int × Int) (k : Nat) : ∀ m, hitTo bs W T m k = true ↔ ∃ i, i < m ∧ bs.getD i false = true ∧ T (i % W) (i / W) = (((k % W : Nat) : Int), ((k / W : Nat) : Int))
  | 0 => by simp [hitTo]
  | m + 1 => by
    simp only [hitTo, Bool.or_eq_true, hitTo_iff bs W T k m, Bool.and_eq_true, decide_eq_true_eq]
    constructor
    · rintro (⟨i, h1, h2⟩ | h)
      · exact ⟨i, by omega, h2⟩
      · exact ⟨m, by omega, h⟩
    · rintro ⟨i, h1, h2⟩
      rcases Nat.lt_or_ge i m with h | h
      · exact Or.inl ⟨i, h, h2⟩
      · obtain rfl : i = m := by omega
        exact Or.inr h2
theorem hitTo_no {bs : List Bool} {W m : Nat} {T : Nat → Nat → Int × Int} (h : bs.getD m false = false) (k : Nat) : hitTo bs W T (m + 1) k = hitTo bs W T m k := by
  simp only [hitTo, h, Bool.false_and, Bool.or_false]
theorem place_parts {W H k : Nat} (hk : k < W * H) : k % W < W ∧ k / W < H ∧ (k / W) * W + k % W = k := by
  have hW : 0 < W := by rcases Nat.eq_zero_or_pos W with h0 | h0; (subst h0; simp at hk); exact h0
  exact ⟨Nat.mod_lt _ hW, Nat.div_lt_of_lt_mul hk, by have := Nat.div_add_mod k W; rw [Nat.mul_comm] at this; exact this⟩
theorem at_parts {W x : Nat} (y : Nat) (hx : x < W) : (y * W + x) % W = x ∧ (y * W + x) / W = y :=
  ⟨by rw [Nat.mul_comm, Nat.mul_add_mod, Nat.mod_eq_of_lt hx], by rw [Nat.mul_comm, Nat.mul_add_div (by omega), Nat.div_eq_of_lt hx, Nat.add_zero]⟩
theorem hitTo_out {bs : List Bool} {W H m : Nat} {T : Nat → Nat → Int × Int} {x y : Int} (hT : T (m % W) (m / W) = (x, y)) (ho : x < 0 ∨ (W : Int) ≤ x ∨ y < 0 ∨ (H : Int) ≤ y) (k : Nat) (hk : k < W * H) : hitTo bs W T (m + 1) k = hitTo bs W T m k := by
  obtain ⟨h1, h2, _⟩ := place_parts hk
  have : ¬ ((x, y) = (((k % W : Nat) : Int), ((k / W : Nat) : Int))) := by
    rw [Prod.mk.injEq]
    generalize k % W = a at h1 ⊢
    generalize k / W = b at h2 ⊢
    omega
  simp only [hitTo, hT, decide_eq_false this, Bool.and_false, Bool.or_false]
theorem hitTo_in {bs : List Bool} {W H m X Y : Nat} {T : Nat → Nat → Int × Int} (h : bs.getD m false = true) (hT : T (m % W) (m / W) = ((X : Int), (Y : Int))) (hX : X < W) (k : Nat) (hk : k < W * H) :
    hitTo bs W T (m + 1) k = if k = Y * W + X then true else hitTo bs W T m k := by
  obtain ⟨h1, h2, h3⟩ := place_parts hk
  obtain ⟨p1, p2⟩ := at_parts Y hX
  simp only [hitTo, hT, h, Bool.true_and]
  by_cases e : k = Y * W + X
  · rw [if_pos e, e, p1, p2]; simp
  · rw [if_neg e]
    have : ¬ (((X : Int), (Y : Int)) = (((k % W : Nat) : Int), ((k / W : Nat) : Int))) := by
      rw [Prod.mk.injEq]
      rintro ⟨a, b⟩
      have a' : X = k % W := by omega
      have b' : Y = k / W := by omega
      rw [a', b', h3] at e
      exact e rfl
    rw [decide_eq_false this, Bool.or_false]
/-- Columns that go down. -/
theorem hit_lean (bs : List Bool) (W H : Nat) (s : Nat → Int) (k : Nat) (hk : k < W * H) :
    hitTo bs W (fun x y => ((x : Int), (y : Int) + s x)) (W * H) k = atI bs W H ((k % W : Nat) : Int) (((k / W : Nat) : Int) - s (k % W)) := by
  obtain ⟨h1, h2, h3⟩ := place_parts hk
  rw [Bool.eq_iff_iff, hitTo_iff]
  constructor
  · rintro ⟨i, hi, hb, hT⟩
    obtain ⟨i1, i2, i3⟩ := place_parts hi
    rw [Prod.mk.injEq] at hT
    have e1 : i % W = k % W := by omega
    rw [e1] at hT
    have e2 : ((k / W : Nat) : Int) - s (k % W) = ((i / W : Nat) : Int) := by omega
    rw [e2, atI_in bs W H _ _ h1 i2]
    unfold pix
    rw [← e1, i3]
    exact hb
  · intro h
    rcases atI_ways' bs W H ((k % W : Nat) : Int) (((k / W : Nat) : Int) - s (k % W)) with e | ⟨X, Y, eX, eY, hX, hY, e⟩
    · rw [e] at h; cases h
    · rw [e] at h
      obtain ⟨p1, p2⟩ := at_parts Y hX
      refine ⟨Y * W + X, place_lt hX hY, h, ?_⟩
      rw [p1, p2]
      have : X = k % W := by omega
      rw [Prod.mk.injEq, this]
      exact ⟨rfl, by omega⟩
/-- Rows that go to the right. -/
theorem hit_slant (bs : List Bool) (W H : Nat) (s : Nat → Int) (k : Nat) (hk : k < W * H) :
    hitTo bs W (fun x y => ((x : Int) + s y, (y : Int))) (W * H) k = atI bs W H (((k % W : Nat) : Int) - s (k / W)) ((k / W : Nat) : Int) := by
  obtain ⟨h1, h2, h3⟩ := place_parts hk
  rw [Bool.eq_iff_iff, hitTo_iff]
  constructor
  · rintro ⟨i, hi, hb, hT⟩
    obtain ⟨i1, i2, i3⟩ := place_parts hi
    rw [Prod.mk.injEq] at hT
    have e1 : i / W = k / W := by omega
    rw [e1] at hT
    have e2 : ((k % W : Nat) : Int) - s (k / W) = ((i % W : Nat) : Int) := by omega
    rw [e2, atI_in bs W H _ _ i1 h2]
    unfold pix
    rw [← e1, i3]
    exact hb
  · intro h
    rcases atI_ways' bs W H (((k % W : Nat) : Int) - s (k / W)) ((k / W : Nat) : Int) with e | ⟨X, Y, eX, eY, hX, hY, e⟩
    · rw [e] at h; cases h
    · rw [e] at h
      obtain ⟨p1, p2⟩ := at_parts Y hX
      refine ⟨Y * W + X, place_lt hX hY, h, ?_⟩
      rw [p1, p2]
      have : Y = k / W := by omega
      rw [Prod.mk.injEq, this]
      exact ⟨by omega, rfl⟩

end Go.Proofs.YtpjemcfcheijkaaDoor
