/- Decimal numbers of at most four digits, as page.number and bedref2.Number read them. -/
import Derived.Test.YtjelhdpcaileiaaGreatDoorS0
import Derived.Lib.Atoi
import Derived.Lib.ItoaNum

namespace Go.Proofs.YtjelhdpcaileiaaGreatDoor
open Go.RowKit

theorem decFrom_snoc (b : UInt8) : ∀ (l : List UInt8) (acc : Nat), Lib.decFrom acc (l ++ [b]) = match Lib.decFrom acc l with | none => none | some m => (match Lib.digitVal b with | some d => some (m * 10 + d) | none => none)
  | [], acc => by
    show (match Lib.digitVal b with | some d => Lib.decFrom (acc * 10 + d) [] | none => none) = _
    cases Lib.digitVal b <;> rfl
  | a :: l, acc => by
    show (match Lib.digitVal a with | some d => Lib.decFrom (acc * 10 + d) (l ++ [b]) | none => none) = match (match Lib.digitVal a with | some d => Lib.decFrom (acc * 10 + d) l | none => none) with | none => none | some m => (match Lib.digitVal b with | some d => some (m * 10 + d) | none => none)
    cases Lib.digitVal a with
    | none => rfl
    | some d => exact decFrom_snoc b l (acc * 10 + d)
def dgB (d : Nat) : UInt8 := UInt8.ofNat (48 + d)
theorem dgB_nat {d : Nat} (h : d < 10) : (dgB d).toNat = 48 + d := by unfold dgB; rw [UInt8.toNat_ofNat']; omega
theorem digitVal_dg {d : Nat} (h : d < 10) : Lib.digitVal (dgB d) = some d := by
  unfold Lib.digitVal
  rw [dgB_nat h, if_pos (by omega)]
  congr 1
  omega
theorem digitVal_some {b : UInt8} {d : Nat} (h : Lib.digitVal b = some d) : d < 10 ∧ b = dgB d := by
  unfold Lib.digitVal at h
  split at h
  · rename_i hb
    obtain rfl := Option.some.inj h
    refine ⟨by omega, ?_⟩
    apply UInt8.toNat_inj.1
    rw [dgB_nat (by omega)]
    omega
  · cases h
theorem dec_small {n : Nat} (h : n < 10) : Lib.decDigits n = [dgB n] := Lib.decDigits_one h
theorem dec_big {n : Nat} (h : ¬ n < 10) : Lib.decDigits n = Lib.decDigits (n / 10) ++ [dgB (n % 10)] := by
  rw [Lib.decDigits, dif_neg h]
  rfl
theorem dec_digits (n : Nat) : Lib.decFrom 0 (Lib.decDigits n) = some n := by
  induction n using Nat.strongRecOn with
  | ind n ih =>
    by_cases h : n < 10
    · rw [dec_small h]
      show (match Lib.digitVal (dgB n) with | some d => Lib.decFrom (0 * 10 + d) [] | none => none) = some n
      rw [digitVal_dg h]
      show some (0 * 10 + n) = some n
      congr 1
      omega
    · rw [dec_big h, decFrom_snoc, ih (n / 10) (by omega)]
      simp only
      rw [digitVal_dg (by omega)]
      simp only
      congr 1
      omega
theorem dec_all (n : Nat) : ∀ b ∈ Lib.decDigits n, 48 ≤ b.toNat ∧ b.toNat ≤ 57 := by
  induction n using Nat.strongRecOn with
  | ind n ih =>
    by_cases h : n < 10
    · rw [dec_small h]
      intro b hb
      rw [List.mem_singleton.1 hb, dgB_nat h]
      omega
    · rw [dec_big h]
      intro b hb
      rcases List.mem_append.1 hb with hb | hb
      · exact ih (n / 10) (by omega) b hb
      · rw [List.mem_singleton.1 hb, dgB_nat (by omega)]
        omega
theorem dec_head (n : Nat) (h : 1 ≤ n) : ∃ b l, Lib.decDigits n = b :: l ∧ b ≠ 48 := by
  induction n using Nat.strongRecOn with
  | ind n ih =>
    by_cases h9 : n < 10
    · refine ⟨dgB n, [], dec_small h9, fun e => ?_⟩
      have := congrArg UInt8.toNat e
      rw [dgB_nat h9] at this
      have h48 : (48 : UInt8).toNat = 48 := rfl
      omega
    · obtain ⟨b, l, e, hb⟩ := ih (n / 10) (by omega) (by omega)
      exact ⟨b, l ++ [dgB (n % 10)], by rw [dec_big h9, e]; rfl, hb⟩
/-- Digits without a leading zero are the digits of their number. -/
theorem digits_dec : ∀ (k : Nat) (l : List UInt8) (m : Nat), l.length = k + 1 → (l.getD 0 0 ≠ 48 ∨ k = 0) → Lib.decFrom 0 l = some m → Lib.decDigits m = l
  | 0, l, m, hl, _, h => by
    match l, hl with
    | [b], _ =>
      have h' : (match Lib.digitVal b with | some d => Lib.decFrom (0 * 10 + d) [] | none => none) = some m := h
      cases hd : Lib.digitVal b with
      | none => rw [hd] at h'; cases h'
      | some d =>
        rw [hd] at h'
        have hm : 0 * 10 + d = m := Option.some.inj h'
        obtain ⟨h10, rfl⟩ := digitVal_some hd
        rw [show m = d by omega]
        exact dec_small h10
  | k + 1, l, m, hl, hz, h => by
    rcases List.eq_nil_or_concat l with rfl | ⟨q, b, rfl⟩
    · simp at hl
    · rw [List.concat_eq_append] at h hz hl ⊢
      rw [List.length_append, List.length_singleton] at hl
      rw [decFrom_snoc] at h
      cases hq : Lib.decFrom 0 q with
      | none => rw [hq] at h; cases h
      | some v =>
        rw [hq] at h
        cases hd : Lib.digitVal b with
        | none => simp only [hd] at h; cases h
        | some d =>
          simp only [hd] at h
          have hm : v * 10 + d = m := Option.some.inj h
          obtain ⟨h10, rfl⟩ := digitVal_some hd
          have hq0 : q.getD 0 0 ≠ 48 := by
            rcases hz with hz | hz
            · rw [List.getD_eq_getElem?_getD, List.getElem?_append_left (by omega), ← List.getD_eq_getElem?_getD] at hz
              exact hz
            · omega
          have ih := digits_dec k q v (by omega) (.inl hq0) hq
          have hv : 1 ≤ v := by
            rcases Nat.eq_zero_or_pos v with rfl | hv
            · rw [dec_small (by decide)] at ih
              rw [← ih] at hq0
              exact absurd rfl hq0
            · exact hv
          rw [dec_big (by omega), show m / 10 = v by omega, show m % 10 = d by omega, ih]
theorem atoi_plain {b : UInt8} (l : List UInt8) (hb : 48 ≤ b.toNat) : Lib.atoi (b :: l) = (Lib.decNat (b :: l)).map fun (m : Nat) => (m : Int) := by
  show (if (b == 45) = true then (Lib.decNat l).map (fun (m : Nat) => -(m : Int)) else if (b == 43) = true then (Lib.decNat l).map (fun (m : Nat) => (m : Int)) else (Lib.decNat (b :: l)).map fun (m : Nat) => (m : Int)) = _
  rw [if_neg (by intro hx; rw [beq_iff_eq] at hx; rw [hx] at hb; exact absurd hb (by decide)), if_neg (by intro hx; rw [beq_iff_eq] at hx; rw [hx] at hb; exact absurd hb (by decide))]
theorem atoi_digits {n : Nat} (h : 1 ≤ n) : Lib.atoi (Lib.decDigits n) = some (n : Int) := by
  obtain ⟨b, l, e, -⟩ := dec_head n h
  have hb := dec_all n b (by rw [e]; exact List.mem_cons_self ..)
  have hd := dec_digits n
  rw [e] at hd ⊢
  rw [atoi_plain l hb.1]
  unfold Lib.decNat
  rw [if_neg (by simp), hd]
  rfl
/-- What page.number reads. -/
def numP (s : List UInt8) : Option Nat := match Lib.atoi s with
  | some v => if s.length ≤ 4 ∧ Lib.itoa v = s ∧ 0 < v then some v.toNat else none
  | none => none
def isDg (b : UInt8) : Bool := decide (48 ≤ b.toNat ∧ b.toNat ≤ 57)
/-- What bedref2.Number reads, above zero. -/
def plainN (s : List UInt8) : Bool := !s.isEmpty && (decide (s.length ≤ 4) && (s.all isDg && !(decide (1 < s.length) && s.getD 0 0 == 48)))
def numR (s : List UInt8) : Option Nat := if plainN s = true then (match Lib.atoi s with | some v => if 0 < v then some v.toNat else none | none => none) else none
def DecIs (s : List UInt8) (n : Nat) : Prop := 1 ≤ n ∧ n ≤ 9999 ∧ s = Lib.decDigits n
theorem dec_len {n : Nat} (h : n ≤ 9999) : (Lib.decDigits n).length ≤ 4 := by
  rw [Lib.decDigits_length]
  rcases Nat.lt_or_ge 4 (Lib.nDigits n) with h4 | h4
  · exfalso
    by_cases h1 : n < 10
    · rw [Lib.nDigits_small h1] at h4; omega
    · rw [Lib.nDigits_big h1] at h4
      by_cases h2 : n / 10 < 10
      · rw [Lib.nDigits_small h2] at h4; omega
      · rw [Lib.nDigits_big h2] at h4
        by_cases h3 : n / 10 / 10 < 10
        · rw [Lib.nDigits_small h3] at h4; omega
        · rw [Lib.nDigits_big h3, Lib.nDigits_small (by omega)] at h4; omega
  · exact h4
theorem len_dec {n : Nat} (h : (Lib.decDigits n).length ≤ 4) : n ≤ 9999 := by
  rw [Lib.decDigits_length] at h
  have h1 := Lib.lt_pow_nDigits n
  have h2 : 10 ^ Lib.nDigits n ≤ 10 ^ 4 := Nat.pow_le_pow_right (by decide) h
  omega
theorem numP_iff (s : List UInt8) (n : Nat) : numP s = some n ↔ DecIs s n := by
  constructor
  · intro h
    unfold numP at h
    cases ha : Lib.atoi s with
    | none => rw [ha] at h; cases h
    | some v =>
      rw [ha] at h
      simp only at h
      split at h
      · rename_i hc
        obtain ⟨h4, hi, hv⟩ := hc
        obtain rfl := Option.some.inj h
        unfold Lib.itoa at hi
        rw [if_neg (by omega)] at hi
        exact ⟨by omega, len_dec (by rw [hi]; exact h4), hi.symm⟩
      · cases h
  · rintro ⟨h1, h9, rfl⟩
    unfold numP
    rw [atoi_digits h1]
    simp only
    rw [if_pos ⟨dec_len h9, by unfold Lib.itoa; rw [if_neg (by omega), Int.toNat_natCast], by omega⟩, Int.toNat_natCast]
theorem numR_iff (s : List UInt8) (n : Nat) : numR s = some n ↔ DecIs s n := by
  constructor
  · intro h
    unfold numR at h
    by_cases hp : plainN s = true
    · rw [if_pos hp] at h
      unfold plainN at hp
      simp only [Bool.and_eq_true, Bool.not_eq_true', decide_eq_true_eq] at hp
      obtain ⟨hne, h4, hall, hz⟩ := hp
      have hne2 : s ≠ [] := by intro e; rw [e] at hne; cases hne
      obtain ⟨b, l, rfl⟩ : ∃ b l, s = b :: l := by
        cases s with
        | nil => exact absurd rfl hne2
        | cons b l => exact ⟨b, l, rfl⟩
      have hb : 48 ≤ b.toNat ∧ b.toNat ≤ 57 := of_decide_eq_true (List.all_eq_true.1 hall b (List.mem_cons_self ..))
      have ha := atoi_plain l hb.1
      rw [ha] at h
      unfold Lib.decNat at h
      rw [if_neg (by simp)] at h
      cases hd : Lib.decFrom 0 (b :: l) with
      | none => rw [hd] at h; cases h
      | some m =>
        rw [hd] at h
        have h' : (if (0 : Int) < ((m : Nat) : Int) then some (((m : Nat) : Int)).toNat else none) = some n := h
        split at h'
        · rename_i h0
          rw [Int.toNat_natCast] at h'
          obtain rfl := Option.some.inj h'
          have hdd := digits_dec l.length (b :: l) m rfl (by
            by_cases hk : l.length = 0
            · exact .inr hk
            · left
              rw [decide_eq_true (by simp only [List.length_cons]; omega)] at hz
              simpa using hz) hd
          exact ⟨by omega, len_dec (by rw [hdd]; exact h4), hdd.symm⟩
        · cases h'
    · rw [if_neg hp] at h; cases h
  · rintro ⟨h1, h9, rfl⟩
    obtain ⟨b, l, e, hb⟩ := dec_head n h1
    have hp : plainN (Lib.decDigits n) = true := by
      unfold plainN
      simp only [Bool.and_eq_true, Bool.not_eq_true', decide_eq_true_eq]
      refine ⟨by rw [e]; rfl, dec_len h9, List.all_eq_true.2 fun x hx => decide_eq_true (dec_all n x hx), ?_⟩
      rw [e]
      simp [hb]
    unfold numR
    rw [if_pos hp, atoi_digits h1]
    simp only
    rw [if_pos (by omega), Int.toNat_natCast]
theorem num_same (s : List UInt8) : numP s = numR s := by
  cases hp : numP s with
  | some n => exact ((numR_iff s n).2 ((numP_iff s n).1 hp)).symm
  | none =>
    cases hr : numR s with
    | none => rfl
    | some n =>
      have := (numP_iff s n).2 ((numR_iff s n).1 hr)
      rw [hp] at this
      cases this
end Go.Proofs.YtjelhdpcaileiaaGreatDoor
