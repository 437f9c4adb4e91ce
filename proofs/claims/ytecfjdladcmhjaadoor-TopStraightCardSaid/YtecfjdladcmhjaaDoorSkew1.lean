/- shift, leans, slants, check, squares. -/
import Derived.Test.YtecfjdladcmhjaaDoorSkewLaw
namespace Go.Proofs.YtecfjdladcmhjaaDoor
open Go.RowKit

theorem shiftI_parts {n : Int} (h : -2000000 ≤ n ∧ n ≤ 2000000) : (n < 0 ∧ shiftI n = -roundI (-n) 1024 ∧ 0 ≤ roundI (-n) 1024 ∧ roundI (-n) 1024 ≤ 2000) ∨ (¬ n < 0 ∧ shiftI n = roundI n 1024 ∧ 0 ≤ roundI n 1024 ∧ roundI n 1024 ≤ 2000) := by
  unfold shiftI
  by_cases hn : n < 0
  · rw [if_pos hn]; refine Or.inl ⟨hn, rfl, ?_⟩; unfold roundI; omega
  · rw [if_neg hn]; refine Or.inr ⟨hn, rfl, ?_⟩; unfold roundI; omega

set_option maxHeartbeats 400000 in
theorem shift_any (n : Int) (w : World) (h : -2000000 ≤ n ∧ n ≤ 2000000) : Calls Tryd.prog 173 #[.int .i64 n] w fun e w' => e = .returned (.int .i64 (shiftI n)) ∧ w = w' := by
  rcases shiftI_parts h with ⟨hn, e, h1, h2⟩ | ⟨hn, e, h1, h2⟩
  all_goals
    rw [e]
    clear e
    go_enter Tryd.func173, Tryd.ntmps173
    go_wp2_with (go_at_call 140; refine (rounded_any _ _ _ (by omega) (by omega) (by omega) (by omega)).mono ?_; rintro e w' ⟨rfl, rfl⟩)
    go_ret
    exact ⟨rfl, rfl⟩
set_option maxRecDepth 100000 in
set_option maxHeartbeats 1000000 in
theorem leans_any (W : Nat) (n : Int) (w : World) (hW : W ≤ 4000) (h1 : 1 ≤ W) (hn : -256 ≤ n ∧ n ≤ 256) : Calls Tryd.prog 109 #[.int .i64 W, .int .i64 n] w fun e w' =>
    ∃ g, e = .returned (.slice (some ⟨g, 0, none⟩) W W) ∧ w.heap.size ≤ g ∧ Blk w' g 3 (tabI W (leanI W n)) ∧ Bl w w' := by
  have hmk := run_make_row' (P := Tryd.prog) 83 3 (.int .i64 0) 8 Tryd.underlying83 info_int rfl .i64 .i64 W (by omega) (by omega)
  rw [tabI_made] at hmk
  go_enter Tryd.func109, Tryd.ntmps109
  go_wp2_with fail
  go_loopw [11] (fun u wr => ∃ k : Nat, k ≤ W ∧ u = .int .i64 k ∧ Bl w wr ∧ Blk wr w.heap.size 3 (tabI W fun j => if j < k then leanI W n j else 0)) (fun u _ => W - (intOf u).toNat)
  case atStart => exact ⟨0, Nat.zero_le _, rfl, (Bl.refl _).alloc _, by simpa using Blk.new w _ _⟩
  case round =>
    obtain ⟨k, hk, rfl, hbr, hblk⟩ := hrel
    by_cases hlt : k < W
    · have hbd := leanArg_bd hW hn hlt
      have hbd2 := leanI_bd hW hn hlt
      have elean : shiftI (n * ((k : Int) - ((W : Int) - 1) / 2)) = leanI W n k := rfl
      obtain ⟨m, hm⟩ : ∃ m, m = n * ((k : Int) - ((W : Int) - 1) / 2) := ⟨_, rfl⟩
      rw [← hm] at hbd elean
      have hm' := hm.symm
      have kc := hblk.tabAt hlt
      have kf := hblk.frozen k
      have hset := hblk.tabSet (f' := fun j => if j < k + 1 then leanI W n j else 0) k (leanI W n k) (fun j _ => by
        by_cases e : j = k
        · subst e; simp
        · rw [if_neg e]
          have : (j < k + 1) = (j < k) := by apply propext; omega
          simp only [this])
      have Hset := Lib.hid hset
      have Hm := Lib.hid hm
      clear hset hm
      simp only [Nat.lt_irrefl, if_false] at kc
      go_wp2_with (go_at_call 173; refine (shift_any _ _ (by omega)).mono ?_; rintro e w' ⟨rfl, rfl⟩)
      exact ⟨⟨k + 1, hlt, by go_num, hbr.setCell (by simp) _, Hset.out⟩, by simp [intOf]; omega⟩
    · obtain rfl : k = W := by omega
      have e : tabI k (fun j => if j < k then leanI k n j else 0) = tabI k (leanI k n) := tabI_congr fun j hj => by rw [if_pos hj]
      rw [e] at hblk
      go_wp2_with fail
      go_ret
      exact ⟨_, rfl, Nat.le_refl _, hblk, hbr⟩

/-- How far to the right a row goes. -/
def slantI (H : Nat) (n : Int) (y : Nat) : Int := shiftI (n * (((H : Int) - 1) / 2 - (y : Int)))
theorem slantArg_bd {H : Nat} {n : Int} {y : Nat} (hH : H ≤ 4000) (hn : -256 ≤ n ∧ n ≤ 256) (hy : y < H) : -2000000 ≤ n * (((H : Int) - 1) / 2 - (y : Int)) ∧ n * (((H : Int) - 1) / 2 - (y : Int)) ≤ 2000000 := by
  obtain ⟨d, hd⟩ : ∃ d, d = ((H : Int) - 1) / 2 - (y : Int) := ⟨_, rfl⟩
  rw [← hd]
  have h1 : -4000 ≤ d ∧ d ≤ 4000 := by omega
  have h2 : (n * d).natAbs ≤ 256 * 4000 := by
    rw [Int.natAbs_mul]
    exact Nat.mul_le_mul (by omega) (by omega)
  omega
theorem slantI_bd {H : Nat} {n : Int} {y : Nat} (hH : H ≤ 4000) (hn : -256 ≤ n ∧ n ≤ 256) (hy : y < H) : -2000 ≤ slantI H n y ∧ slantI H n y ≤ 2000 :=
  shiftI_bd (slantArg_bd hH hn hy)
/-! ### check -/
def leanErr (W H : Int) (k : Nat) (n : Int) : Int := firstNZ [pageErr W H k, whenI (!inB n (-256) 256) 3]
set_option maxRecDepth 100000 in
set_option maxHeartbeats 1000000 in
theorem check_any (W H : Int) (A : Option Addr) (k c : Nat) (n : Int) (w : World) : Calls Tryd.prog 108 #[.agg #[.int .i64 W, .int .i64 H, .slice A k c], .int .i64 n] w fun e w' => e = .returned (.int .i64 (leanErr W H k n)) ∧ Bl w w' := by
  by_cases hp : pageErr W H k = 0
  · rcases (show n < -256 ∨ (¬ n < -256 ∧ 256 < n) ∨ (-256 ≤ n ∧ n ≤ 256) by omega) with h | ⟨h, h'⟩ | h
    · have e : leanErr W H k n = 3 := by unfold leanErr; rw [hp, inB_false.2 (by omega)]; rfl
      have E := Lib.hid e; clear e
      go_enter Tryd.func108, Tryd.ntmps108
      go_wp2_with fail
      refine (checkBits_any _ _ _ _ _ _).mono ?_
      rintro e w1 ⟨rfl, hb1⟩
      go_wp2_with fail
      go_ret
      exact ⟨ret_int E.out.symm, ((Bl.refl _).alloc _).trans hb1⟩
    · have e : leanErr W H k n = 3 := by unfold leanErr; rw [hp, inB_false.2 (by omega)]; rfl
      have E := Lib.hid e; clear e
      go_enter Tryd.func108, Tryd.ntmps108
      go_wp2_with fail
      refine (checkBits_any _ _ _ _ _ _).mono ?_
      rintro e w1 ⟨rfl, hb1⟩
      go_wp2_with fail
      go_ret
      exact ⟨ret_int E.out.symm, ((Bl.refl _).alloc _).trans hb1⟩
    · have e : leanErr W H k n = 0 := by unfold leanErr; rw [hp, inB_true.2 (by omega)]; rfl
      have E := Lib.hid e; clear e
      go_enter Tryd.func108, Tryd.ntmps108
      go_wp2_with fail
      refine (checkBits_any _ _ _ _ _ _).mono ?_
      rintro e w1 ⟨rfl, hb1⟩
      go_wp2_with fail
      go_ret
      exact ⟨ret_int E.out.symm, ((Bl.refl _).alloc _).trans hb1⟩
  · have e : leanErr W H k n = pageErr W H k := by unfold leanErr; simp [firstNZ, hp]
    have hq : (pageErr W H k != 0) = true := by simp [hp]
    have E := Lib.hid e; clear e hp
    go_enter Tryd.func108, Tryd.ntmps108
    go_wp2_with fail
    refine (checkBits_any _ _ _ _ _ _).mono ?_
    rintro e w1 ⟨rfl, hb1⟩
    go_wp2_with fail
    go_ret
    exact ⟨ret_int E.out.symm, ((Bl.refl _).alloc _).trans hb1⟩
theorem leanErr_zero {W H : Int} {k : Nat} {n : Int} (h : leanErr W H k n = 0) : pageErr W H k = 0 ∧ (-256 ≤ n ∧ n ≤ 256) := by
  unfold leanErr firstNZ at h
  split at h
  · rename_i h0
    refine ⟨h0, ?_⟩
    cases hi : inB n (-256) 256
    · rw [hi] at h; simp [firstNZ, whenI] at h
    · exact inB_true.1 hi
  · contradiction

/-! ### squares -/
def sqN (f : Nat → Int) : Nat → Int
  | 0 => 0
  | k + 1 => sqN f k + f k * f k
theorem sqN_bd {f : Nat → Int} {b : Int} (h : ∀ k, 0 ≤ f k ∧ f k ≤ 1048576) : ∀ k, 0 ≤ sqN f k ∧ sqN f k ≤ 1099511627776 * k
  | 0 => by simp [sqN]
  | k + 1 => by
    have h1 := sqN_bd (b := b) h k
    have h2 := h k
    have h3 : 0 ≤ f k * f k := Int.mul_nonneg h2.1 h2.1
    have h4 := Int.mul_le_mul h2.2 h2.2 h2.1 (by omega)
    simp only [sqN]
    omega
theorem sqN_congr {f g : Nat → Int} : ∀ {n : Nat}, (∀ k, k < n → f k = g k) → sqN f n = sqN g n
  | 0, _ => rfl
  | n + 1, h => by
    unfold sqN
    rw [sqN_congr (n := n) (fun i hi => h i (by omega)), h n (by omega)]
set_option maxRecDepth 100000 in
set_option maxHeartbeats 1000000 in
theorem squares_any (A : Option Addr) (N c : Nat) (f : Nat → Int) (w : World) (hr : Reads w 1 A N ((tabL N f).map (.int .i64))) (hN : N ≤ 16000) (hf : ∀ k, 0 ≤ f k ∧ f k ≤ 1048576) :
    Calls Tryd.prog 176 #[.slice A N c] w fun e w' => e = .returned (.int .i64 (sqN f N)) ∧ w = w' := by
  have Hf := Lib.hid hf
  clear hf
  go_enter Tryd.func176, Tryd.ntmps176
  go_wp2_with fail
  go_loop [3, 8] (fun s u => ∃ k : Nat, k ≤ N ∧ u = .int .i64 k ∧ s = .int .i64 (sqN f k)) (fun _ u => N - (intOf u).toNat)
  case atStart => exact ⟨0, Nat.zero_le _, rfl, rfl⟩
  case round =>
    obtain ⟨k, hk, rfl, rfl⟩ := hrel
    by_cases hlt : k < N
    · obtain ⟨ad, rfl, hc⟩ := hr.intAt hlt
      have b1 := sqN_bd (b := 0) Hf.out k
      have b2 := Hf.out k
      have b3 : 0 ≤ f k * f k := Int.mul_nonneg b2.1 b2.1
      have b4 := Int.mul_le_mul b2.2 b2.2 b2.1 (by omega)
      go_wp2_with fail
      exact ⟨⟨k + 1, hlt, by go_num, rfl⟩, by simp [intOf]; omega⟩
    · obtain rfl : k = N := by omega
      go_wp2_with fail
      go_ret
      exact ⟨rfl, rfl⟩

end Go.Proofs.YtecfjdladcmhjaaDoor
