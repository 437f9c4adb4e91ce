/- strings.Trim at a set of signs; whether a text is of certain signs; bar.CheckDigit of 12 digits; bedlaw2.bars. -/
import Derived.Test.YtjelhdpcaileiaaDoorU23
import Derived.Test.YtjelhdpcaileiaaDoorU36
import Derived.Test.YtjelhdpcaileiaaDoorU0

namespace Go.Proofs.YtjelhdpcaileiaaDoor
open Go.RowKit Go.Shelf

theorem trim_any (l cs : List UInt8) (w : World) (hl : l.length ≤ 9223372036854775807) (hcs : cs.length ≤ 100) (ha : ∀ (j : Nat) b, cs[j]? = some b → b.toNat < 128) :
    Calls Tryd.prog 107 #[.string ⟨l.toArray⟩, .string ⟨cs.toArray⟩] w fun e w' => e = .returned (.string ⟨(Lib.trimS l cs).toArray⟩) ∧ Bl w w' := by
  have h := Any.strings_Trim_laid Tryd.lays160 (by kernel_rfl) ⟨l.toArray⟩ ⟨cs.toArray⟩ w (by rw [Lib.size_mk]; exact hl) (by rw [Lib.size_mk]; omega) ha
  refine Calls.mono (R := fun e w' => e = .returned (.string ⟨(Lib.trimS l cs).toArray⟩) ∧ Below w.heap.size w w') h ?_
  rintro e w' ⟨rfl, hb⟩
  exact ⟨rfl, hb⟩
/-- All signs of a text are of a set. -/
def madeOf (l cs : List UInt8) : Bool := l.all fun b => cs.contains b
theorem trim_made (l cs : List UInt8) : (Lib.trimS l cs).isEmpty = madeOf l cs := by
  rw [Bool.eq_iff_iff, List.isEmpty_iff, trimS_nil_iff]
  unfold madeOf
  rw [List.all_eq_true]
def digits10 : List UInt8 := [48, 49, 50, 51, 52, 53, 54, 55, 56, 57]
theorem digits_ascii : ∀ (j : Nat) b, digits10[j]? = some b → b.toNat < 128 := by
  intro j b h
  have hm := List.mem_of_getElem? h
  have : ∀ b ∈ digits10, b.toNat < 128 := by decide
  exact this b hm
/-- So many digits. -/
def digB (l : List UInt8) (n : Nat) : Bool := decide (l.length = n) && madeOf l digits10
set_option maxRecDepth 100000 in
set_option maxHeartbeats 1000000 in
theorem areDigits_any (l : List UInt8) (n : Nat) (w : World) (hl : l.length ≤ 9223372036854775807) (_hn : n ≤ 100) :
    Calls Tryd.prog 126 #[.string ⟨l.toArray⟩, .int .i64 n] w fun e w' => e = .returned (.bool (digB l n)) ∧ Bl w w' := by
  have Ht := Lib.hid (trim_any l digits10 w hl (by decide) digits_ascii)
  have hsz : (⟨l.toArray⟩ : ByteArray).size = l.length := Lib.size_mk l
  go_enter Tryd.func126, Tryd.ntmps126
  by_cases h : l.length = n
  · have hq : ((l.length : Int) == (n : Int)) = true := by simp [h]
    have HD := Lib.hid (show digB l n = (Lib.trimS l digits10).isEmpty by unfold digB; rw [decide_eq_true h, trim_made]; rfl)
    clear h
    go_wp2_with fail
    refine Ht.out.mono ?_
    rintro e w1 ⟨rfl, hb⟩
    go_wp2_with fail
    go_ret
    exact ⟨ret_bool HD.out.symm, hb⟩
  · have hq : ((l.length : Int) == (n : Int)) = false := by rw [beq_eq_false_iff_ne]; omega
    have HD := Lib.hid (show digB l n = false by unfold digB; rw [decide_eq_false h]; rfl)
    clear h
    go_wp2_with fail
    go_ret
    exact ⟨ret_bool HD.out.symm, Bl.refl _⟩
/-- The sum of digits, each second one three times. -/
def digOf (l : List UInt8) (i : Nat) : Nat := (l.getD i 48).toNat - 48
def checkSum (l : List UInt8) : Nat → Nat
  | 0 => 0
  | i + 1 => checkSum l i + digOf l i * (1 + i % 2 * 2)
theorem checkSum_le (l : List UInt8) (h : ∀ i, digOf l i ≤ 9) : ∀ n, checkSum l n ≤ n * 27
  | 0 => Nat.le_refl _
  | n + 1 => by
    have ih := checkSum_le l h n
    have h1 : digOf l n * (1 + n % 2 * 2) ≤ 9 * 3 := Nat.mul_le_mul (h n) (by omega)
    show checkSum l n + digOf l n * (1 + n % 2 * 2) ≤ _
    omega
def checkOf (l : List UInt8) : Nat := (10 - checkSum l 12 % 10) % 10
theorem made_at {l : List UInt8} (h : madeOf l digits10 = true) {i : Nat} {b : UInt8} (hi : l[i]? = some b) : 48 ≤ b.toNat ∧ b.toNat ≤ 57 := by
  unfold madeOf at h
  have h1 := List.all_eq_true.1 h b (List.mem_of_getElem? hi)
  have h2 : ∀ b ∈ digits10, 48 ≤ b.toNat ∧ b.toNat ≤ 57 := by decide
  exact h2 b (by simpa using h1)
theorem digOf_le {l : List UInt8} (h : madeOf l digits10 = true) (i : Nat) : digOf l i ≤ 9 := by
  unfold digOf
  rw [List.getD_eq_getElem?_getD]
  cases hg : l[i]? with
  | none => show (48 : UInt8).toNat - 48 ≤ 9; decide
  | some b =>
    have := made_at h hg
    show b.toNat - 48 ≤ 9
    omega
set_option maxRecDepth 100000 in
set_option maxHeartbeats 2000000 in
theorem checkDigit_any (l : List UInt8) (w : World) (hl : l.length ≤ 9223372036854775807) :
    Calls Tryd.prog 53 #[.string ⟨l.toArray⟩] w fun e w' => e = .returned (.tuple #[.int .i64 (if digB l 12 = true then (checkOf l : Int) else 0), .int .i64 (if digB l 12 = true then 0 else 2)]) ∧ Bl w w' := by
  have Hd := Lib.hid (areDigits_any l 12 w hl (by decide))
  have hsz : (⟨l.toArray⟩ : ByteArray).size = l.length := Lib.size_mk l
  obtain ⟨db, hdb⟩ : ∃ db, db = digB l 12 := ⟨_, rfl⟩
  rw [← hdb] at Hd ⊢
  have HDB := Lib.hid hdb
  clear hdb
  go_enter Tryd.func53, Tryd.ntmps53
  go_wp2_with fail
  refine Hd.out.mono ?_
  rintro e w1 ⟨rfl, hb1⟩
  clear Hd
  cases hdb : db with
  | false =>
    subst hdb
    go_wp2_with fail
    exact bodyPost_ret (v := .tuple #[.int .i64 0, .int .i64 2]) (by simp [results, Tryd.results53, go_sem]) rfl ⟨rfl, hb1⟩
  | true =>
    have hd := HDB.out
    rw [hdb] at hd
    unfold digB at hd
    simp only [Bool.true_eq, Bool.and_eq_true, decide_eq_true_eq] at hd
    obtain ⟨hlen, hmade⟩ := hd
    have HMade := Lib.hid hmade; have HLen := Lib.hid hlen
    have hlenI : (l.length : Int) = 12 := by omega
    subst hdb
    clear hmade hlen
    go_wp2_with fail
    go_loopw [4, 11] (fun u v wr => ∃ i : Nat, i ≤ 12 ∧ v = .int .i64 i ∧ u = .int .i64 (checkSum l i : Int) ∧ Bl w wr) (fun _ v _ => 12 - (RowKit.intOf v).toNat)
    case atStart => exact ⟨0, by omega, rfl, rfl, hb1⟩
    case round =>
      obtain ⟨i, hi, rfl, rfl, hbr⟩ := hrel
      by_cases hlt : i < 12
      · have hg : l[i]? = some l[i] := List.getElem?_eq_getElem (by have := HLen.out; omega)
        obtain ⟨b, hb⟩ : ∃ b, b = l[i]'(by have := HLen.out; omega) := ⟨_, rfl⟩
        rw [← hb] at hg
        obtain ⟨h1, h2⟩ := bytes_at hg
        have hma := made_at HMade.out hg
        have hdg : digOf l i = b.toNat - 48 := by unfold digOf; rw [List.getD_eq_getElem?_getD, hg]; rfl
        have hst : checkSum l (i + 1) = checkSum l i + digOf l i * (1 + i % 2 * 2) := rfl
        have hle := checkSum_le l (digOf_le HMade.out) i
        have hd9 := digOf_le HMade.out i
        obtain ⟨s, hs⟩ : ∃ s, s = checkSum l i := ⟨_, rfl⟩
        obtain ⟨d, hd⟩ : ∃ d, d = digOf l i := ⟨_, rfl⟩
        rw [← hs] at hst hle ⊢
        rw [← hd] at hst hd9 hdg
        have hr2 : i % 2 = 0 ∨ i % 2 = 1 := by omega
        have hdb2 : (b.toNat : Int) - 48 = (d : Int) := by omega
        have hmr : (i : Int) % 2 = ((i % 2 : Nat) : Int) := by omega
        obtain ⟨r, hr⟩ : ∃ r, r = i % 2 := ⟨_, rfl⟩
        rw [← hr] at hst hr2 hmr
        have HSt := Lib.hid hst; have HDb := Lib.hid hdb2
        clear hg hb hs hd hr hst hdg hdb2
        rcases hr2 with rfl | rfl
        · have HF := Lib.hid (show (s : Int) + (d : Int) = ((checkSum l (i + 1) : Nat) : Int) by rw [HSt.out]; omega)
          clear HSt
          go_wp2_with fail
          exact ⟨⟨i + 1, by omega, by go_num, by rw [← HF.out, ← HDb.out], hbr⟩, by simp [RowKit.intOf] <;> omega⟩
        · have HF := Lib.hid (show (s : Int) + (d : Int) * 3 = ((checkSum l (i + 1) : Nat) : Int) by rw [HSt.out]; omega)
          clear HSt
          go_wp2_with fail
          exact ⟨⟨i + 1, by omega, by go_num, by rw [← HF.out, ← HDb.out], hbr⟩, by simp [RowKit.intOf] <;> omega⟩
      · obtain rfl : i = 12 := by omega
        go_wp2_with fail
        have he : -((checkSum l 12 : Int) % 10) % 10 = (checkOf l : Int) := by unfold checkOf; omega
        refine bodyPost_ret (v := .tuple #[.int .i64 (checkOf l), .int .i64 0]) (by simp [results, Tryd.results53, go_sem]; exact he) rfl ⟨rfl, hbr⟩

set_option maxRecDepth 100000 in
theorem bars_any (w : World) : Calls Tryd.prog 35 #[] w fun e w' => e = .returned (.bool true) ∧ Bl w w' := by
  have h := checkDigit_any [52, 48, 48, 54, 51, 56, 49, 51, 51, 51, 57, 51] w (by decide)
  rw [show digB [52, 48, 48, 54, 51, 56, 49, 51, 51, 51, 57, 51] 12 = true by decide, show checkOf [52, 48, 48, 54, 51, 56, 49, 51, 51, 51, 57, 51] = 1 by decide] at h
  have H := Lib.hid h
  clear h
  go_enter Tryd.func35, Tryd.ntmps35
  go_wp2_with fail
  refine H.out.mono ?_
  rintro e w1 ⟨rfl, hb⟩
  go_wp2_with fail
  go_ret
  exact ⟨rfl, hb⟩

end Go.Proofs.YtjelhdpcaileiaaDoor
