/- Division that is rounded, in the reference and in the program; blank pages. -/
import Derived.Test.YtecfjdladcmhjaaDoorErr
namespace Go.Proofs.YtecfjdladcmhjaaDoor
open Go.RowKit

def roundI (a b : Int) : Int := (2 * a + b) / (2 * b)

theorem div_facts (a b : Int) (hb : 1 ≤ b) : a / b * b ≤ a ∧ a < (a / b + 1) * b ∧ (a / b + 1) * b = a / b * b + b := by
  have h1 := Int.mul_ediv_self_le (x := a) (k := b) (by omega)
  have h2 := Int.lt_mul_ediv_self_add (x := a) (k := b) (by omega)
  have e : (a / b + 1) * b = a / b * b + b := by rw [Int.add_mul, Int.one_mul]
  rw [Int.mul_comm] at h1 h2
  omega

/-- Cut towards nought, of a negative number: the floor, or one more. -/
theorem tdiv_neg (a b : Int) (hb : 1 ≤ b) (ha : a < 0) : (a.tdiv b = a / b ∧ a.tmod b = 0 ∧ a / b * b = a) ∨ (a.tdiv b = a / b + 1 ∧ a.tmod b < 0 ∧ a / b * b < a) := by
  have h1 := Int.mul_tdiv_add_tmod a b
  have h2 := Int.mul_ediv_add_emod a b
  have h3 := Int.emod_nonneg a (show b ≠ 0 by omega)
  have h4 := Int.emod_lt_of_pos a (show 0 < b by omega)
  have hc : b * (a / b) = a / b * b := Int.mul_comm _ _
  rw [Int.tdiv_eq_ediv, Int.tmod_eq_emod] at *
  by_cases hd : b ∣ a
  · left
    have : a % b = 0 := Int.emod_eq_zero_of_dvd hd
    simp [hd, this]
    omega
  · right
    have hne : a % b ≠ 0 := fun e => hd (Int.dvd_of_emod_eq_zero e)
    have hna : ¬ (0 ≤ a) := by omega
    have hs : b.sign = 1 := Int.sign_eq_one_of_pos (by omega)
    have hab : (b.natAbs : Int) = b := by omega
    simp [hd, hna, hs, hab]
    omega

theorem div_bd (a b : Int) (hb : 1 ≤ b) (h1 : -1099511627776 ≤ a) (h2 : a ≤ 1099511627776) : -1099511627776 ≤ a / b ∧ a / b ≤ 1099511627776 := by
  constructor
  · exact Int.le_trans (by omega) (Int.le_ediv_of_mul_le (by omega) (show -1099511627776 * b ≤ a by omega))
  · exact Int.ediv_le_of_le_mul (by omega) (by omega)

set_option maxHeartbeats 400000 in
theorem down_any (a b : Int) (w : World) (h1 : -1099511627776 ≤ a) (h2 : a ≤ 1099511627776) (h3 : 1 ≤ b) (h4 : b ≤ 1099511627776) :
    Calls Tryd.prog 192 #[.int .i64 a, .int .i64 b] w fun e w' => e = .returned (.int .i64 (a / b)) ∧ w = w' := by
  have hd := div_facts a b h3
  obtain ⟨hb1, hb2⟩ := div_bd a b h3 h1 h2
  obtain ⟨q, hq⟩ : ∃ q, q = a / b := ⟨_, rfl⟩
  rw [← hq] at hd hb1 hb2
  obtain ⟨hd1, hd2, hd3⟩ := hd
  by_cases ha : 0 ≤ a
  · have hlo : -2199023255552 ≤ q * b := by omega
    have Hq := Lib.hid hq; have Hd := Lib.hid hd3; clear hd3
    have hq' := hq.symm; clear hq
    go_enter Tryd.func192, Tryd.ntmps192
    go_wp2
    refine wp_loop_rounds 1 ?_
    rw [rounds_succ]
    go_wp2
    go_ret
    first | exact ⟨rfl, rfl⟩ | exact ⟨ret_int (by have := Hq.out; omega), rfl⟩
  · rcases tdiv_neg a b h3 (by omega) with ⟨ht, _, he⟩ | ⟨ht, _, he⟩
    · rw [← hq] at ht he
      have Hq := Lib.hid hq; have Hd := Lib.hid hd3; clear hd3
      have hq' := hq.symm; clear hq
      have hle : q * b ≤ a := by omega
      have hlo : -2199023255552 ≤ q * b := by omega
      have He := Lib.hid he; clear he
      go_enter Tryd.func192, Tryd.ntmps192
      go_wp2
      refine wp_loop_rounds 1 ?_
      rw [rounds_succ]
      go_wp2
      go_ret
      first | exact ⟨rfl, rfl⟩ | exact ⟨ret_int (by have := Hq.out; omega), rfl⟩
    · rw [← hq] at ht he
      have Hq := Lib.hid hq
      have hq' := hq.symm; clear hq
      have hgt : a < (q + 1) * b := by omega
      have hle : q * b ≤ a := by omega
      have hbd : (q + 1) * b ≤ 2199023255552 := by omega
      have hlo : -2199023255552 ≤ q * b := by omega
      have Hd := Lib.hid hd3; clear hd3 he
      go_enter Tryd.func192, Tryd.ntmps192
      go_wp2
      refine wp_loop_rounds 2 ?_
      rw [rounds_succ]
      go_wp2
      have e1 : q + 1 - 1 = q := by omega
      rw [rounds_succ]
      go_wp2
      go_ret
      exact ⟨ret_int (by have := Hq.out; omega), rfl⟩

set_option maxHeartbeats 400000 in
theorem floor_any (a b : Int) (w : World) (h1 : -1099511627776 ≤ a) (h2 : a ≤ 1099511627776) (h3 : 1 ≤ b) (h4 : b ≤ 1099511627776) :
    Calls Tryd.prog 188 #[.int .i64 a, .int .i64 b] w fun e w' => e = .returned (.int .i64 (a / b)) ∧ w = w' := by
  obtain ⟨hb1, hb2⟩ := div_bd a b h3 h1 h2
  by_cases ha : 0 ≤ a
  · have hm := Int.emod_nonneg a (show b ≠ 0 by omega)
    go_enter Tryd.func188, Tryd.ntmps188
    go_wp2
    go_ret
    exact ⟨rfl, rfl⟩
  · rcases tdiv_neg a b h3 (by omega) with ⟨ht, hm, _⟩ | ⟨ht, hm, _⟩
    · go_enter Tryd.func188, Tryd.ntmps188
      go_wp2
      go_ret
      exact ⟨ret_int (by omega), rfl⟩
    · go_enter Tryd.func188, Tryd.ntmps188
      go_wp2
      go_ret
      exact ⟨ret_int (by omega), rfl⟩

set_option maxHeartbeats 400000 in
theorem round_any (a b : Int) (w : World) (h1 : -274877906944 ≤ a) (h2 : a ≤ 274877906944) (h3 : 1 ≤ b) (h4 : b ≤ 274877906944) :
    Calls Tryd.prog 143 #[.int .i64 a, .int .i64 b] w fun e w' => e = .returned (.int .i64 (roundI a b)) ∧ w = w' := by
  go_enter Tryd.func143, Tryd.ntmps143
  go_wp2_with (go_at_call 192; refine (down_any _ _ _ (by omega) (by omega) (by omega) (by omega)).mono ?_; rintro e w' ⟨rfl, rfl⟩)
  go_ret
  exact ⟨rfl, rfl⟩

set_option maxHeartbeats 400000 in
theorem rounded_any (a b : Int) (w : World) (h1 : -274877906944 ≤ a) (h2 : a ≤ 274877906944) (h3 : 1 ≤ b) (h4 : b ≤ 274877906944) :
    Calls Tryd.prog 140 #[.int .i64 a, .int .i64 b] w fun e w' => e = .returned (.int .i64 (roundI a b)) ∧ w = w' := by
  go_enter Tryd.func140, Tryd.ntmps140
  go_wp2_with (go_at_call 188; refine (floor_any _ _ _ (by omega) (by omega) (by omega) (by omega)).mono ?_; rintro e w' ⟨rfl, rfl⟩)
  go_ret
  exact ⟨rfl, rfl⟩

end Go.Proofs.YtecfjdladcmhjaaDoor
