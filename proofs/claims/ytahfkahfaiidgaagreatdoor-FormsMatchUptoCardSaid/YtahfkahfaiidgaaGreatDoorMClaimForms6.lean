/- Decimal numbers of at most four digits, as page.number and bedref2.Number read them. -/
import Derived.Test.YtahfkahfaiidgaaGreatDoorMClaimForms0
import Derived.Lib.Atoi
import Derived.Lib.ItoaNum

namespace Go.Proofs.YtahfkahfaiidgaaGreatDoor
open Go.RowKit

theorem decFrom_snoc (b : UInt8) : ∀ (l : List UInt8) (acc : Nat), Lib.decFrom acc (l ++ [b]) = match Lib.decFrom acc l with | none => none | some m => (match Lib.digitVal b with | some d => some (m * 10 + d) | none => none)
  | [], acc => by
    show (match Lib.digitVal b with | some d => Lib.decFrom (acc * 10 + d) [] | none => none) = _
    cases Lib.digitVal b <;> rfl
  | a :: l, acc => by
    show (match Lib.digitVal a with | some d => Lib.decFrom (acc * 10 + d) (l ++ [b]) | none => none) = match (match Lib.digitVal a with | some d => Lib.decFrom (acc * 10 + d) l | none => none) with | none => none | some m => (match Lib.digitVal b with | some d => some (m * 10 + d) | none => none)
    cases Lib.digitVal a with
    | none => rfl
    | some d => exact decFrom_snoc b l (acc * 10 + d)
def dgB (d : Nat) : UInt8 := UInt8.ofNat (48 + d)
theorem dgB_nat {d : Nat} (h : d < 10) : (dgB d).toNat = 48 + d := by unfold dgB; rw [UInt8.toNat_ofNat']; omega
theorem digitVal_dg {d : Nat} (h : d < 10) : Lib.digitVal (dgB d) = some d := by
  unfold Lib.digitVal
  rw [dgB_nat h, if_pos (by omega)]
  congr 1
  omega
theorem digitVal_some {b : UInt8} {d : Nat} (h : Lib.digitVal b = some d) : d < 10 ∧ b = dgB d := by
  unfold Lib.digitVal at h
  split at h
  · rename_i hb
    obtain rfl := Option.some.inj h
    refine ⟨by omega, ?_⟩
    apply UInt8.toNat_inj.1
    rw [dgB_nat (by omega)]
    omega
  · cases h
theorem dec_small {n : Nat} (h : n < 10) : Lib.decDigits n = [dgB n] := Lib.decDigits_one h
theorem dec_big {n : Nat} (h : ¬ n < 10) : Lib.decDigits n = Lib.decDigits (n / 10) ++ [dgB (n % 10)] := by
  rw [Lib.decDigits, dif_neg h]
  rfl
theorem dec_digits (n : Nat) : Lib.decFrom 0 (Lib.decDigits n) = some n := by
  induction n using Nat.strongRecOn with
  | ind n ih =>
    by_cases h : n < 10
    · rw [dec_small h]
      show (match Lib.digitVal (dgB n) with | some d => Lib.decFrom (0 * 10 + d) [] | none => none) = some n
      rw [digitVal_dg h]
      show some (0 * 10 + n) = some n
      congr 1
      omega
    · rw [dec_big h, decFrom_snoc, ih (n / 10) (by omega)]
      simp only
      rw [digitVal_dg (by omega)]
      simp only
      congr 1
      omega
theorem dec_all (n : Nat) : ∀ b ∈ Lib.decDigits n, 48 ≤ b.toNat ∧ b.toNat ≤ 57 := by
  induction n using Nat.strongRecOn with
  | ind n ih =>
    by_cases h : n < 10
    · rw [dec_small h]
      intro b hb
      rw [List.mem_singleton.1 hb, dgB_nat h]
      omega
    · rw [dec_big h]
      intro b hb
      rcases List.mem_append.1 hb with hb | hb
      · exact ih (n / 10) (by omega) b hb
      · rw [List.mem_singleton.1 hb, dgB_nat (by omega)]
        omega
theorem dec_head (n : Nat) (h : 1 ≤ n) : ∃ b l, Lib.decDigits n = b :: l ∧ b ≠ 48 := by
  induction n using Nat.strongRecOn with
  | ind n ih =>
    by_cases h9 : n < 10
    · refine ⟨dgB n, [], dec_small h9, fun e => ?_⟩
      have := congrArg UInt8.toNat e
      rw [dgB_nat h9] at this
      have h48 : (48 : UInt8).toNat = 48 := rfl
      omega
    · obtain ⟨b, l, e, hb⟩ := ih (n / 10) (by omega) (by omega)
      exact ⟨b, l ++ [dgB (n % 10)], by rw [dec_big h9, e]; rfl, hb⟩
/-- Digits without a leading zero are the digits of their number. -/
theorem digits_dec : ∀ (k : Nat) (l : List UInt8) (m : Nat), l.length = k + 1 → (l.getD 0 0 ≠ 48 ∨ k = 0) → Lib.decFrom 0 l = some m → Lib.decDigits m = l
  | 0, l, m, hl, _, h => by
    match l, hl with
    | [b], _ =>
      have h' : (match Lib.digitVal b with | some d => Lib.decFrom (0 * 10 + d) [] | none => none) = some m := h
      cases hd : Lib.digitVal b with
      | none => rw [hd] at h'; cases h'
      | some d =>
        rw [hd] at h'
        have hm : 0 * 10 + d = m := Option.some.inj h'
        obtain ⟨h10, rfl⟩ := digitVal_some hd
        rw [show m = d by omega]
        exact dec_small h10
  | k + 1, l, m, hl, hz, h => by
    rcases List.eq_nil_or_concat l with rfl | ⟨q, b, rfl⟩
    · simp at hl
    · rw [List.concat_eq_append] at h hz hl ⊢
      rw [List.length_append, List.length_singleton] at hl
      rw [decFrom_snoc] at h
      cases hq : Lib.decFrom 0 q with
      | none => rw [hq] at h; cases h
      | some v =>
        rw [hq] at h
        cases hd : Lib.digitVal b with
        | none => simp only [hd] at h; cases h
        | some d =>
          simp only [hd] at h
          have hm : v * 10 + d = m := Option.some.inj h
          obtain ⟨h10, rfl⟩ := digitVal_some hd
          have hq0 : q.getD 0 0 ≠ 48 := by
            rcases hz with hz | hz
            · rw [List.getD_eq_getElem?_getD, List.getElem?_append_left (by omega), ← List.getD_eq_getElem?_getD] at hz
              exact hz
            · omega
          have ih := digits_dec k q v (by omega) (.inl hq0) hq
          have hv : 1 ≤ v := by
            rcases Nat.eq_zero_or_pos v with rfl | hv
            · rw [dec_small (by decide)] at ih
              rw [← ih] at hq0
              exact absurd rfl hq0
            · exact hv
          rw [dec_big (by omega), show m / 10 = v by omega, show m % 10 = d by omega, ih]
theorem atoi_plain {b : UInt8} (l : List UInt8) (hb : 48 ≤ b.toNat) : Lib.atoi (b :: l) = (Lib.decNat (b :: l)).map fun (m : Nat) => (m : Int) := by
  show (if (b == 45) = true then (Lib.decNat l).map (fun (m : Nat) => -(m : Int)) else if (b == 43) = true then (Lib.decNat l).map (fun (m : Nat) => (m : Int)) else (Lib.decNat (b :: l)).map fun (m : Nat) => (m : Int)) = _
  rw [if_neg (by intro hx; rw [beq_iff_eq] at hx; rw [hx] at hb; exact absurd hb (by decide)), if_neg (by intro hx; rw [beq_iff_eq] at hx; rw [hx] at hb; exact absurd hb (by decide))]
theorem atoi_digits {n : Nat} (h : 1 ≤ n) : Lib.atoi (Lib.decDigits n) = some (n : Int) := by
  obtain ⟨b, l, e, -⟩ := dec_head n h
  have hb := dec_all n b (by rw [e]; exact List.mem_cons_self ..)
  have hd := dec_digits n
  rw [e] at hd ⊢
  rw [atoi_plain l hb.1]
  unfold Lib.decNat
  rw [if_neg (by simp), hd]
  rfl
def isDg (b : UInt8) : Bool := decide (48 ≤ b.toNat ∧ b.toNat ≤ 57)
end Go.Proofs.YtahfkahfaiidgaaGreatDoor
