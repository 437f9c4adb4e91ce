/- What holds of a font whose error is 0. -/
import Derived.Test.YtjelhdpcaileiaaDoorU2
import Derived.Test.YtjelhdpcaileiaaDoorU0
import Derived.Test.YtjelhdpcaileiaaDoorU1

namespace Go.Proofs.YtjelhdpcaileiaaDoor
open Go.RowKit

set_option maxRecDepth 100000 in
set_option maxHeartbeats 4000000 in
theorem inkOf_any (W H X Y BW BH : Nat) (A : Option Addr) (ac : Nat) (bs : List Bool) (w : World) (hA : Reads w 1 A (W * H) (bs.map .bool)) (hW : W ≤ 4000) (hH : H ≤ 4000) (hX : X + BW ≤ W) (hY : Y + BH ≤ H) :
    Calls Tryd.prog 162 #[.agg #[.int .i64 W, .int .i64 H, .slice A (W * H) ac], .agg #[.int .i64 X, .int .i64 Y, .int .i64 BW, .int .i64 BH]] w fun e w' => e = .returned (.int .i64 (inkN bs W X Y BW BH)) ∧ Bl w w' := by
  let w2 := ((w).alloc (.cells #[.int .i64 W, .int .i64 H, .slice A (W * H) ac] 27)).alloc (.cells #[.int .i64 X, .int .i64 Y, .int .i64 BW, .int .i64 BH] 88)
  have w2b : Bl w w2 := ((Bl.refl w).alloc _).alloc _
  have w21 : Blk w2 (w.heap.size) 27 #[.int .i64 W, .int .i64 H, .slice A (W * H) ac] := by
    have h0 := Blk.new (w) 27 #[.int .i64 W, .int .i64 H, .slice A (W * H) ac]
    exact (h0.alloc _)
  have w22 : Blk w2 (w.heap.size + 1) 88 #[.int .i64 X, .int .i64 Y, .int .i64 BW, .int .i64 BH] := by
    have h0 := Blk.new ((w).alloc (.cells #[.int .i64 W, .int .i64 H, .slice A (W * H) ac] 27)) 88 #[.int .i64 X, .int .i64 Y, .int .i64 BW, .int .i64 BH]
    simp only [World.size_alloc] at h0
    exact h0
  have k2 := w22.all4
  have HA := Lib.hid (hA.bl w2b)
  clear hA
  go_enter Tryd.func162, Tryd.ntmps162
  go_wp2_with fail
  go_loopw [5, 6] (fun n u wr => ∃ j : Nat, j ≤ BH ∧ u = .int .i64 ((Y : Int) + j) ∧ n = .int .i64 (inkN bs W X Y BW j) ∧ Bl w2 wr) (fun _ u _ => Y + BH - (intOf u).toNat)
  case atStart => exact ⟨0, Nat.zero_le _, by simp, rfl, Bl.refl _⟩
  case round =>
    clear k2
    obtain ⟨j, hj, rfl, rfl, hbr⟩ := hrel
    have k2 := (w22.bl hbr).all4
    by_cases hlt : j < BH
    · have d1 : (Y : Int) + (j : Int) < (Y : Int) + (BH : Int) := by omega
      go_wp2_with fail
      go_loopw [5, 7] (fun n u wr => ∃ i : Nat, i ≤ BW ∧ u = .int .i64 ((X : Int) + i) ∧ n = .int .i64 (((inkN bs W X Y BW j + sumN (fun i => b1 (pix bs W (X + i) (Y + j))) i : Nat)) : Int) ∧ Bl w2 wr) (fun _ u _ => X + BW - (intOf u).toNat)
      case atStart => exact ⟨0, Nat.zero_le _, by simp, rfl, hbr⟩
      case round =>
        clear k2 hbr
        rename_i wo _ _ _
        obtain ⟨i, hi, rfl, rfl, hbr⟩ := hrel
        have k1 := (w21.bl hbr).all3
        have k2 := (w22.bl hbr).all4
        by_cases hlt2 : i < BW
        · have d2 : (X : Int) + (i : Int) < (X : Int) + (BW : Int) := by omega
          have hat := at_any W H A ac bs (((X + i : Nat)) : Int) (((Y + j : Nat)) : Int) wr (HA.out.bl hbr) hW hH
          rw [atI_in bs W H (X + i) (Y + j) (by omega) (by omega)] at hat
          have hst : sumN (fun i => b1 (pix bs W (X + i) (Y + j))) (i + 1) = sumN (fun i => b1 (pix bs W (X + i) (Y + j))) i + b1 (pix bs W (X + i) (Y + j)) := rfl
          have hle : sumN (fun i => b1 (pix bs W (X + i) (Y + j))) i ≤ i * 1 := sumN_le (fun _ => b1_le _) i
          have hle2 : inkN bs W X Y BW j ≤ j * BW := sumN_le (fun k => by have := sumN_le (f := fun i => b1 (pix bs W (X + i) (Y + k))) (c := 1) (fun _ => b1_le _) BW; simpa using this) j
          have hle3 := Nat.mul_le_mul (show j ≤ 4000 by omega) (show BW ≤ 4000 by omega)
          obtain ⟨n, hn⟩ : ∃ n, n = sumN (fun i => b1 (pix bs W (X + i) (Y + j))) i := ⟨_, rfl⟩
          obtain ⟨va, hva⟩ : ∃ v, v = pix bs W (X + i) (Y + j) := ⟨_, rfl⟩
          obtain ⟨q, hq⟩ : ∃ q, q = inkN bs W X Y BW j := ⟨_, rfl⟩
          rw [← hn, ← hva] at hst
          rw [← hn] at hle ⊢
          rw [← hva] at hat
          rw [← hq] at hle2 ⊢
          have ex : (((X + i : Nat)) : Int) = (X : Int) + (i : Int) := by simp
          have ey : (((Y + j : Nat)) : Int) = (Y : Int) + (j : Int) := by simp
          rw [ex, ey] at hat
          have Hat := Lib.hid hat; have Hst := Lib.hid hst; have Hq := Lib.hid hq
          clear hat hst hn hva ex ey hq
          cases va
          all_goals
            go_wp2_with fail
            refine Hat.out.mono ?_
            rintro e w1 ⟨rfl, hb1⟩
            go_wp2_with fail
            exact ⟨⟨i + 1, hlt2, by go_num, by rw [Hst.out]; first | (congr 1; done) | (congr 1; simp [b1]; done) | (congr 1; simp [b1]; omega), hbr.trans hb1⟩, by simp [intOf]; omega⟩
        · obtain rfl : i = BW := by omega
          go_wp2_with fail
          exact ⟨⟨j + 1, hlt, by go_num, rfl, hbr⟩, by simp [intOf]; omega⟩
    · obtain rfl : j = BH := by omega
      go_wp2_with fail
      go_ret
      exact ⟨rfl, w2b.trans hbr⟩

set_option maxRecDepth 100000 in
set_option maxHeartbeats 2000000 in
theorem columnsOf_any (W H : Nat) (A : Option Addr) (ac : Nat) (bs : List Bool) (w : World) (hA : Reads w 1 A (W * H) (bs.map .bool)) (hW : W ≤ 4000) (hH : H ≤ 4000) :
    Calls Tryd.prog 89 #[.agg #[.int .i64 W, .int .i64 H, .slice A (W * H) ac]] w fun e w' => ∃ P c, e = .returned (.slice P W c) ∧ Reads w' 1 P W ((tabL W (colI bs W H)).map (.int .i64)) ∧ Bl w w' := by
  let w2 := (w).alloc (.cells #[.int .i64 W, .int .i64 H, .slice A (W * H) ac] 27)
  have w2b : Bl w w2 := (Bl.refl w).alloc _
  have w21 : Blk w2 (w.heap.size) 27 #[.int .i64 W, .int .i64 H, .slice A (W * H) ac] := by
    have h0 := Blk.new (w) 27 #[.int .i64 W, .int .i64 H, .slice A (W * H) ac]
    exact h0
  have k1 := w21.all3
  have lw2 : w2.heap.size = w.heap.size + 1 := by simp [w2]
  have HA := Lib.hid (hA.bl w2b)
  have ho0 : w2.ownsRow (w.heap.size + 1) 3 1 (.slice none 0 0) 0 ((tabL 0 (colI bs W H)).map (.int .i64)) := World.ownsRow_nil _ _ _ _
  have Ho0 := Lib.hid ho0
  clear hA ho0
  go_enter Tryd.func89, Tryd.ntmps89
  go_wp2_with fail
  go_loopw [3, 7] (fun v u wr => ∃ k : Nat, k ≤ W ∧ u = .int .i64 k ∧ Bl w2 wr ∧ wr.ownsRow (w.heap.size + 1) 3 1 v k ((tabL k (colI bs W H)).map (.int .i64))) (fun _ u _ => W - (intOf u).toNat)
  case atStart => exact ⟨0, Nat.zero_le _, rfl, Bl.refl _, Ho0.out⟩
  case round =>
    clear k1
    obtain ⟨k, hk, rfl, hbr, hown⟩ := hrel
    have k1 := (w21.bl hbr).all3
    by_cases hlt : k < W
    · have hcall := inkOf_any W H k 0 1 H A ac bs wr (HA.out.bl hbr) hW hH (by omega) (by omega)
      rw [ink_col] at hcall
      have htl : (tabL (k + 1) (colI bs W H)).map (Value.int .i64) = (tabL k (colI bs W H)).map (Value.int .i64) ++ [Value.int .i64 ((colI bs W H) k)] := by simp [tabL, List.range_succ]
      have Hcall := Lib.hid hcall; have Htl := Lib.hid htl
      clear hcall htl
      go_wp2_with fail
      refine Hcall.out.mono ?_
      rintro e w1 ⟨rfl, hb1⟩
      have hown1 := own_bl hown hb1
      have hbr1 := hbr.trans hb1
      clear hown
      go_wp2_with (at_builtin; refine wpList_append_one rfl (.tmp 10) (.tmp 17) 62 rfl 3 (.int .i64 0) 8 Tryd.underlying62 info_int rfl (w.heap.size + 1) _ _ _ rfl _ rfl rfl hbr1 (by omega) (by have := hbr1.le; omega) hown1 (by omega) (by unfold maxLen; omega) ?_; intro v' w' hown' hb' _)
      exact ⟨⟨k + 1, hlt, by go_num, hb', by rw [Htl.out]; exact hown'⟩, by simp [intOf]; omega⟩
    · obtain rfl : k = W := by omega
      obtain ⟨P, c, rfl, hp⟩ := own_reads hown
      go_wp2_with fail
      go_ret
      exact ⟨_, _, rfl, hp, w2b.trans hbr⟩

/-! ### Ends -/
set_option maxHeartbeats 400000 in
theorem ends1_any (n : Int) (w : World) : Calls Tryd.prog 161 #[.int .i64 n] w fun e w' => e = .returned (.bool (decide (0 < n))) ∧ w = w' := by
  go_enter Tryd.func161, Tryd.ntmps161
  go_wp2_with fail
  go_ret
  exact ⟨by first | rfl | simp, rfl⟩
theorem ends1_enters : ∀ args w, (callFunc 161 args).run Tryd.prog w = .ok (.enter 161 args) w := enters Tryd.func161 (by kernel_rfl) rfl

set_option maxRecDepth 100000 in
set_option maxHeartbeats 1000000 in
theorem indexFunc_any (P : Option Addr) (N c : Nat) (f : Nat → Nat) (w : World) (hr : Reads w 1 P N ((tabL N fun k => ((f k : Nat) : Int)).map (.int .i64))) (hN : N ≤ 16000) :
    Calls Tryd.prog 160 #[.slice P N c, .func (.func 161) #[] #[]] w fun e w' => ∃ x : Int, e = .returned (.int .i64 x) ∧ ((x = -1 ∧ NoEnds f N) ∨ (∃ k : Nat, x = k ∧ k < N ∧ 0 < f k ∧ ∀ j, j < k → f j = 0)) ∧ w = w' := by
  have hent := ends1_enters
  go_enter Tryd.func160, Tryd.ntmps160
  go_wp2_with fail
  go_loop [8] (fun u => ∃ k : Nat, k ≤ N ∧ u = .int .i64 k ∧ Hid (∀ j, j < k → f j = 0)) (fun u => N - (intOf u).toNat)
  case atStart => exact ⟨0, Nat.zero_le _, rfl, fun j hj => absurd hj (by omega)⟩
  case round =>
    obtain ⟨k, hk, rfl, hz⟩ := hrel
    by_cases hlt : k < N
    · obtain ⟨ad, rfl, hc⟩ := hr.intAt hlt
      by_cases hf : f k = 0
      · have hzz : Hid (∀ j, j < k + 1 → f j = 0) := fun j hj => by
          rcases Nat.lt_or_ge j k with h | h
          · exact hz.out j h
          · obtain rfl : j = k := by omega
            exact hf
        simp only [hf] at hc
        have hd : decide ((0 : Int) < ((0 : Nat) : Int)) = false := by decide
        have Hf := Lib.hid hf
        clear hf
        go_wp2_with (go_at_call 161; refine (ends1_any _ _).mono ?_; rintro e w' ⟨rfl, rfl⟩)
        exact ⟨⟨k + 1, hlt, by go_num, hzz⟩, by simp [intOf]; omega⟩
      · have hf' : 0 < f k := by omega
        have hd : decide ((0 : Int) < ((f k : Nat) : Int)) = true := by simp; omega
        have Hf := Lib.hid hf'
        clear hf
        go_wp2_with (go_at_call 161; refine (ends1_any _ _).mono ?_; rintro e w' ⟨rfl, rfl⟩)
        go_ret
        exact ⟨_, rfl, Or.inr ⟨k, rfl, hlt, Hf.out, hz.out⟩, rfl⟩
    · obtain rfl : k = N := by omega
      go_wp2_with fail
      go_ret
      exact ⟨_, rfl, Or.inl ⟨rfl, hz.out⟩, rfl⟩

set_option maxRecDepth 100000 in
set_option maxHeartbeats 1000000 in
theorem ends_any (P : Option Addr) (N c : Nat) (f : Nat → Nat) (w : World) (hr : Reads w 1 P N ((tabL N fun k => ((f k : Nat) : Int)).map (.int .i64))) (hN : N ≤ 16000) :
    Calls Tryd.prog 88 #[.slice P N c] w fun e w' => ∃ (x r : Nat) (is : Bool), e = .returned (.tuple #[.int .i64 x, .int .i64 r, .bool is]) ∧ ((is = false ∧ x = 0 ∧ r = 0 ∧ NoEnds f N) ∨ (is = true ∧ Ends f N x r)) ∧ w = w' := by
  go_enter Tryd.func88, Tryd.ntmps88
  go_wp2_with fail
  refine (indexFunc_any P N c f w hr hN).mono ?_
  rintro e w' ⟨x, rfl, hx, rfl⟩
  rcases hx with ⟨rfl, hno⟩ | ⟨k, rfl, hk, hpos, hz⟩
  · have Hno := Lib.hid hno
    clear hno
    go_wp2_with fail
    refine bodyPost_ret (v := .tuple #[.int .i64 0, .int .i64 0, .bool false]) (by simp [results, Tryd.results88, go_sem]) rfl ⟨0, 0, false, rfl, Or.inl ⟨rfl, rfl, rfl, Hno.out⟩, rfl⟩
  · have Hpos := Lib.hid hpos; have Hz := Lib.hid hz
    clear hpos hz
    go_wp2_with fail
    go_loop [6] (fun u => ∃ r : Nat, r < N ∧ k ≤ r ∧ u = .int .i64 r ∧ Hid (∀ j, r < j → j < N → f j = 0)) (fun u => (intOf u).toNat)
    case atStart => exact ⟨N - 1, by omega, by omega, by congr 1; omega, fun j h1 h2 => by omega⟩
    case round =>
      obtain ⟨r, hr1, hr2, rfl, hzr⟩ := hrel
      obtain ⟨ad, rfl, hc⟩ := hr.intAt hr1
      by_cases hf : f r = 0
      · have hne : k ≠ r := fun e => by subst e; have := Hpos.out; omega
        have hzz : Hid (∀ j, r - 1 < j → j < N → f j = 0) := fun j h1 h2 => by
          rcases Nat.lt_or_ge r j with h | h
          · exact hzr.out j h h2
          · obtain rfl : j = r := by omega
            exact hf
        simp only [hf] at hc
        have Hf := Lib.hid hf
        clear hf
        go_wp2_with fail
        exact ⟨⟨r - 1, by omega, by omega, by go_num, hzz⟩, by simp [intOf]; omega⟩
      · have hd : (((f r : Nat) : Int) == 0) = false := by simp; omega
        have hd2 : ((f r) == 0) = false := by simp; omega
        have Hf := Lib.hid (show 0 < f r by omega)
        clear hf
        go_wp2_with fail
        refine bodyPost_ret (v := .tuple #[.int .i64 k, .int .i64 r, .bool true]) (by simp [results, Tryd.results88, go_sem]) rfl (by first | exact ⟨k, r, true, rfl, Or.inr ⟨rfl, ⟨hk, Hpos.out, Hz.out⟩, hr1, Hf.out, hzr.out⟩, rfl⟩ | exact ⟨k, r, Or.inr ⟨rfl, ⟨⟨hk, Hpos.out, Hz.out⟩, hr1, Hf.out, hzr.out⟩, rfl⟩⟩)

end Go.Proofs.YtjelhdpcaileiaaDoor


/-! What holds of a font whose error is 0. -/
namespace Go.Proofs.YtjelhdpcaileiaaDoor
open Go.RowKit

theorem firstNZ_zero {es : List Int} (h : firstNZ es = 0) : ∀ e ∈ es, e = 0 := by
  induction es with
  | nil => intro e he; cases he
  | cons x es ih =>
    have h' : (if x = 0 then firstNZ es else x) = 0 := h
    by_cases h0 : x = 0
    · rw [if_pos h0] at h'
      intro e he
      rcases List.mem_cons.1 he with rfl | he
      · exact h0
      · exact ih h' e he
    · rw [if_neg h0] at h'
      exact absurd h' h0
theorem whenI_zero {b : Bool} {n : Int} (h : whenI b n = 0) (hn : n ≠ 0) : b = false := by
  cases b
  · rfl
  · exact absurd h hn
theorem ltrsErr_zero {ht : Int} {ls : List Ltr} : ∀ {prev : List (List UInt8)}, ltrsErr ht prev ls = 0 → ∀ l ∈ ls, textB l.text = true ∧ pageErr l.W l.H l.m = 0 ∧ l.H = ht ∧ l.W ≤ 64 := by
  induction ls with
  | nil => intro prev _ l hl; cases hl
  | cons x ls ih =>
    intro prev h l hl
    have h' : (if ltrErr ht prev x = 0 then ltrsErr ht (prev ++ [x.text]) ls else ltrErr ht prev x) = 0 := h
    by_cases h0 : ltrErr ht prev x = 0
    · rw [if_pos h0] at h'
      rcases List.mem_cons.1 hl with rfl | hl
      · have hz := firstNZ_zero h0
        have k1 := whenI_zero (hz _ (by simp : whenI (!textB l.text) 2 ∈ _)) (by decide)
        have k2 := hz (pageErr l.W l.H l.m) (by simp)
        have k3 := whenI_zero (hz (whenI (l.H != ht) 11) (by simp)) (by decide)
        have k4 := whenI_zero (hz (whenI (decide (64 < l.W)) 4) (by simp)) (by decide)
        refine ⟨by simpa using k1, k2, by simpa using k3, ?_⟩
        have := of_decide_eq_false k4
        omega
      · exact ih h' l hl
    · rw [if_neg h0] at h'
      exact absurd h' h0
theorem fontErr_zero {nm : Bool} {ht gap sp : Int} {ls : List Ltr} (h : fontErr nm ht gap sp ls = 0) : (nm = true ∧ rangeB ht gap sp = true ∧ gap < sp ∧ ls.length ≠ 0 ∧ ls.length ≤ 200 ∧ 1 ≤ ht ∧ ht ≤ 64) ∧ ∀ l ∈ ls, textB l.text = true ∧ pageErr l.W l.H l.m = 0 ∧ l.H = ht ∧ l.W ≤ 64 := by
  have h' : (if fontHead nm ht gap sp ls.length = 0 then ltrsErr ht [] ls else fontHead nm ht gap sp ls.length) = 0 := h
  by_cases h0 : fontHead nm ht gap sp ls.length = 0
  · rw [if_pos h0] at h'
    refine ⟨?_, ltrsErr_zero h'⟩
    have hz := firstNZ_zero h0
    have k1 := whenI_zero (hz (whenI (!nm) 5) (by simp)) (by decide)
    have k2 := whenI_zero (hz (whenI (!rangeB ht gap sp) 3) (by simp)) (by decide)
    have k3 := of_decide_eq_false (whenI_zero (hz (whenI (decide (sp ≤ gap)) 7) (by simp)) (by decide))
    have k4 := of_decide_eq_false (whenI_zero (hz (whenI (decide (ls.length = 0)) 9) (by simp)) (by decide))
    have k5 := of_decide_eq_false (whenI_zero (hz (whenI (decide (200 < ls.length)) 4) (by simp)) (by decide))
    have k2' : rangeB ht gap sp = true := by simpa using k2
    have k6 : inB ht 1 64 = true := by
      unfold rangeB at k2'
      simp only [Bool.and_eq_true] at k2'
      exact k2'.1
    have k7 := inB_true.1 k6
    exact ⟨by simpa using k1, k2', by omega, k4, by omega, k7.1, k7.2⟩
  · rw [if_neg h0] at h'
    exact absurd h' h0

end Go.Proofs.YtjelhdpcaileiaaDoor
