/- EAN codes in plain lists: what is drawn of digits is read as these digits, also backwards. -/
import Derived.Test.YtkipcobpnecmhaaGreatDoorMClaimBarCodes12
import Derived.Test.YtkipcobpnecmhaaGreatDoorMClaimBarCodes0
import Derived.Test.YtkipcobpnecmhaaGreatDoorMClaimBarCodes3
import Derived.Test.YtkipcobpnecmhaaGreatDoorMClaimBarCodes1
import Derived.Shelf.Strings.Cut
import Derived.Lib.CutLaws
import Derived.Lib.SlTrimSet

namespace Go.Proofs.YtkipcobpnecmhaaGreatDoor
open Go.RowKit Go.Shelf

theorem trim_any (l cs : List UInt8) (w : World) (hl : l.length ≤ 9223372036854775807) (hcs : cs.length ≤ 100) (ha : ∀ (j : Nat) b, cs[j]? = some b → b.toNat < 128) :
    Calls Tryz.prog 34 #[.string ⟨l.toArray⟩, .string ⟨cs.toArray⟩] w fun e w' => e = .returned (.string ⟨(Lib.trimS l cs).toArray⟩) ∧ Bl w w' := by
  have h := Any.strings_Trim_laid Tryz.lays160 (by kernel_rfl) ⟨l.toArray⟩ ⟨cs.toArray⟩ w (by rw [Lib.size_mk]; exact hl) (by rw [Lib.size_mk]; omega) ha
  refine Calls.mono (R := fun e w' => e = .returned (.string ⟨(Lib.trimS l cs).toArray⟩) ∧ Below w.heap.size w w') h ?_
  rintro e w' ⟨rfl, hb⟩
  exact ⟨rfl, hb⟩
/-- All signs of a text are of a set. -/
def madeOf (l cs : List UInt8) : Bool := l.all fun b => cs.contains b
theorem trim_made (l cs : List UInt8) : (Lib.trimS l cs).isEmpty = madeOf l cs := by
  rw [Bool.eq_iff_iff, List.isEmpty_iff, trimS_nil_iff]
  unfold madeOf
  rw [List.all_eq_true]
def digits10 : List UInt8 := [48, 49, 50, 51, 52, 53, 54, 55, 56, 57]
theorem digits_ascii : ∀ (j : Nat) b, digits10[j]? = some b → b.toNat < 128 := by
  intro j b h
  have hm := List.mem_of_getElem? h
  have : ∀ b ∈ digits10, b.toNat < 128 := by decide
  exact this b hm
/-- So many digits. -/
def digB (l : List UInt8) (n : Nat) : Bool := decide (l.length = n) && madeOf l digits10
set_option maxRecDepth 100000 in
set_option maxHeartbeats 1000000 in
theorem areDigits_any (l : List UInt8) (n : Nat) (w : World) (hl : l.length ≤ 9223372036854775807) (_hn : n ≤ 100) :
    Calls Tryz.prog 23 #[.string ⟨l.toArray⟩, .int .i64 n] w fun e w' => e = .returned (.bool (digB l n)) ∧ Bl w w' := by
  have Ht := Lib.hid (trim_any l digits10 w hl (by decide) digits_ascii)
  have hsz : (⟨l.toArray⟩ : ByteArray).size = l.length := Lib.size_mk l
  go_enter Tryz.func23, Tryz.ntmps23
  by_cases h : l.length = n
  · have hq : ((l.length : Int) == (n : Int)) = true := by simp [h]
    have HD := Lib.hid (show digB l n = (Lib.trimS l digits10).isEmpty by unfold digB; rw [decide_eq_true h, trim_made]; rfl)
    clear h
    go_wp2_with fail
    refine Ht.out.mono ?_
    rintro e w1 ⟨rfl, hb⟩
    go_wp2_with fail
    go_ret
    exact ⟨ret_bool HD.out.symm, hb⟩
  · have hq : ((l.length : Int) == (n : Int)) = false := by rw [beq_eq_false_iff_ne]; omega
    have HD := Lib.hid (show digB l n = false by unfold digB; rw [decide_eq_false h]; rfl)
    clear h
    go_wp2_with fail
    go_ret
    exact ⟨ret_bool HD.out.symm, Bl.refl _⟩
/-- The sum of digits, each second one three times. -/
def digOf (l : List UInt8) (i : Nat) : Nat := (l.getD i 48).toNat - 48
def checkSum (l : List UInt8) : Nat → Nat
  | 0 => 0
  | i + 1 => checkSum l i + digOf l i * (1 + i % 2 * 2)
theorem checkSum_le (l : List UInt8) (h : ∀ i, digOf l i ≤ 9) : ∀ n, checkSum l n ≤ n * 27
  | 0 => Nat.le_refl _
  | n + 1 => by
    have ih := checkSum_le l h n
    have h1 : digOf l n * (1 + n % 2 * 2) ≤ 9 * 3 := Nat.mul_le_mul (h n) (by omega)
    show checkSum l n + digOf l n * (1 + n % 2 * 2) ≤ _
    omega
def checkOf (l : List UInt8) : Nat := (10 - checkSum l 12 % 10) % 10
theorem made_at {l : List UInt8} (h : madeOf l digits10 = true) {i : Nat} {b : UInt8} (hi : l[i]? = some b) : 48 ≤ b.toNat ∧ b.toNat ≤ 57 := by
  unfold madeOf at h
  have h1 := List.all_eq_true.1 h b (List.mem_of_getElem? hi)
  have h2 : ∀ b ∈ digits10, 48 ≤ b.toNat ∧ b.toNat ≤ 57 := by decide
  exact h2 b (by simpa using h1)
theorem digOf_le {l : List UInt8} (h : madeOf l digits10 = true) (i : Nat) : digOf l i ≤ 9 := by
  unfold digOf
  rw [List.getD_eq_getElem?_getD]
  cases hg : l[i]? with
  | none => show (48 : UInt8).toNat - 48 ≤ 9; decide
  | some b =>
    have := made_at h hg
    show b.toNat - 48 ≤ 9
    omega
set_option maxRecDepth 100000 in
set_option maxHeartbeats 2000000 in
theorem checkDigit_any (l : List UInt8) (w : World) (hl : l.length ≤ 9223372036854775807) :
    Calls Tryz.prog 24 #[.string ⟨l.toArray⟩] w fun e w' => e = .returned (.tuple #[.int .i64 (if digB l 12 = true then (checkOf l : Int) else 0), .int .i64 (if digB l 12 = true then 0 else 2)]) ∧ Bl w w' := by
  have Hd := Lib.hid (areDigits_any l 12 w hl (by decide))
  have hsz : (⟨l.toArray⟩ : ByteArray).size = l.length := Lib.size_mk l
  obtain ⟨db, hdb⟩ : ∃ db, db = digB l 12 := ⟨_, rfl⟩
  rw [← hdb] at Hd ⊢
  have HDB := Lib.hid hdb
  clear hdb
  go_enter Tryz.func24, Tryz.ntmps24
  go_wp2_with fail
  refine Hd.out.mono ?_
  rintro e w1 ⟨rfl, hb1⟩
  clear Hd
  cases hdb : db with
  | false =>
    subst hdb
    go_wp2_with fail
    exact bodyPost_ret (v := .tuple #[.int .i64 0, .int .i64 2]) (by simp [results, Tryz.results24, go_sem]) rfl ⟨rfl, hb1⟩
  | true =>
    have hd := HDB.out
    rw [hdb] at hd
    unfold digB at hd
    simp only [Bool.true_eq, Bool.and_eq_true, decide_eq_true_eq] at hd
    obtain ⟨hlen, hmade⟩ := hd
    have HMade := Lib.hid hmade; have HLen := Lib.hid hlen
    have hlenI : (l.length : Int) = 12 := by omega
    subst hdb
    clear hmade hlen
    go_wp2_with fail
    go_loopw [4, 11] (fun u v wr => ∃ i : Nat, i ≤ 12 ∧ v = .int .i64 i ∧ u = .int .i64 (checkSum l i : Int) ∧ Bl w wr) (fun _ v _ => 12 - (RowKit.intOf v).toNat)
    case atStart => exact ⟨0, by omega, rfl, rfl, hb1⟩
    case round =>
      obtain ⟨i, hi, rfl, rfl, hbr⟩ := hrel
      by_cases hlt : i < 12
      · have hg : l[i]? = some l[i] := List.getElem?_eq_getElem (by have := HLen.out; omega)
        obtain ⟨b, hb⟩ : ∃ b, b = l[i]'(by have := HLen.out; omega) := ⟨_, rfl⟩
        rw [← hb] at hg
        obtain ⟨h1, h2⟩ := bytes_at hg
        have hma := made_at HMade.out hg
        have hdg : digOf l i = b.toNat - 48 := by unfold digOf; rw [List.getD_eq_getElem?_getD, hg]; rfl
        have hst : checkSum l (i + 1) = checkSum l i + digOf l i * (1 + i % 2 * 2) := rfl
        have hle := checkSum_le l (digOf_le HMade.out) i
        have hd9 := digOf_le HMade.out i
        obtain ⟨s, hs⟩ : ∃ s, s = checkSum l i := ⟨_, rfl⟩
        obtain ⟨d, hd⟩ : ∃ d, d = digOf l i := ⟨_, rfl⟩
        rw [← hs] at hst hle ⊢
        rw [← hd] at hst hd9 hdg
        have hr2 : i % 2 = 0 ∨ i % 2 = 1 := by omega
        have hdb2 : (b.toNat : Int) - 48 = (d : Int) := by omega
        have hmr : (i : Int) % 2 = ((i % 2 : Nat) : Int) := by omega
        obtain ⟨r, hr⟩ : ∃ r, r = i % 2 := ⟨_, rfl⟩
        rw [← hr] at hst hr2 hmr
        have HSt := Lib.hid hst; have HDb := Lib.hid hdb2
        clear hg hb hs hd hr hst hdg hdb2
        rcases hr2 with rfl | rfl
        · have HF := Lib.hid (show (s : Int) + (d : Int) = ((checkSum l (i + 1) : Nat) : Int) by rw [HSt.out]; omega)
          clear HSt
          go_wp2_with fail
          exact ⟨⟨i + 1, by omega, by go_num, by rw [← HF.out, ← HDb.out], hbr⟩, by simp [RowKit.intOf] <;> omega⟩
        · have HF := Lib.hid (show (s : Int) + (d : Int) * 3 = ((checkSum l (i + 1) : Nat) : Int) by rw [HSt.out]; omega)
          clear HSt
          go_wp2_with fail
          exact ⟨⟨i + 1, by omega, by go_num, by rw [← HF.out, ← HDb.out], hbr⟩, by simp [RowKit.intOf] <;> omega⟩
      · obtain rfl : i = 12 := by omega
        go_wp2_with fail
        have he : -((checkSum l 12 : Int) % 10) % 10 = (checkOf l : Int) := by unfold checkOf; omega
        refine bodyPost_ret (v := .tuple #[.int .i64 (checkOf l), .int .i64 0]) (by simp [results, Tryz.results24, go_sem]; exact he) rfl ⟨rfl, hbr⟩

set_option maxRecDepth 100000 in
theorem bars_any (w : World) : Calls Tryz.prog 14 #[] w fun e w' => e = .returned (.bool true) ∧ Bl w w' := by
  have h := checkDigit_any [52, 48, 48, 54, 51, 56, 49, 51, 51, 51, 57, 51] w (by decide)
  rw [show digB [52, 48, 48, 54, 51, 56, 49, 51, 51, 51, 57, 51] 12 = true by decide, show checkOf [52, 48, 48, 54, 51, 56, 49, 51, 51, 51, 57, 51] = 1 by decide] at h
  have H := Lib.hid h
  clear h
  go_enter Tryz.func14, Tryz.ntmps14
  go_wp2_with fail
  refine H.out.mono ?_
  rintro e w1 ⟨rfl, hb⟩
  go_wp2_with fail
  go_ret
  exact ⟨rfl, hb⟩

end Go.Proofs.YtkipcobpnecmhaaGreatDoor


/-! EAN codes in plain lists: the modules of digits, and what is read of modules. -/
namespace Go.Proofs.YtkipcobpnecmhaaGreatDoor

def leftC : List (List UInt8) := [[48, 48, 48, 49, 49, 48, 49], [48, 48, 49, 49, 48, 48, 49], [48, 48, 49, 48, 48, 49, 49], [48, 49, 49, 49, 49, 48, 49], [48, 49, 48, 48, 48, 49, 49], [48, 49, 49, 48, 48, 48, 49], [48, 49, 48, 49, 49, 49, 49], [48, 49, 49, 49, 48, 49, 49], [48, 49, 49, 48, 49, 49, 49], [48, 48, 48, 49, 48, 49, 49]]
def firstC : List (List UInt8) := [[76, 76, 76, 76, 76, 76], [76, 76, 71, 76, 71, 71], [76, 76, 71, 71, 76, 71], [76, 76, 71, 71, 71, 76], [76, 71, 76, 76, 71, 71], [76, 71, 71, 76, 76, 71], [76, 71, 71, 71, 76, 76], [76, 71, 76, 71, 76, 71], [76, 71, 76, 71, 71, 76], [76, 71, 71, 76, 71, 76]]
def exB (l : List UInt8) : List UInt8 := l.map fun b => 97 - b
def codeOf (k : UInt8) (d : Nat) : List UInt8 := if k = 82 then exB (leftC.getD d []) else if k = 71 then (exB (leftC.getD d [])).reverse else leftC.getD d []
def midE : List UInt8 := [48, 49, 48, 49, 48]
def endE : List UInt8 := [49, 48, 49]
/-- The table of the codes, the newest entry first. -/
def tabE : Nat → List (List UInt8 × List UInt8)
  | 0 => []
  | d + 1 => (71 :: (exB (leftC.getD d [])).reverse, [UInt8.ofNat (48 + d)]) :: (82 :: exB (leftC.getD d []), [UInt8.ofNat (48 + d)]) :: (76 :: leftC.getD d [], [UInt8.ofNat (48 + d)]) :: tabE d
def lookE (x : List UInt8) : Option (List UInt8) := ((tabE 10).find? fun e => e.1 == x).map (·.2)
def dec1 (i : Nat) (s : List UInt8) : Option (UInt8 × List UInt8) :=
  if 6 ≤ i then (lookE (82 :: s)).map fun n => (82, n) else match lookE (76 :: s) with
    | some n => some (76, n)
    | none => (lookE (71 :: s)).map fun n => (71, n)
def gFrom (i : Nat) : Nat := 3 + 7 * i + (if 6 ≤ i then 5 else 0)
def gAt (m : List UInt8) (i : Nat) : List UInt8 := (m.drop (gFrom i)).take 7
def partsE (m : List UInt8) : Nat → Option (List (UInt8 × List UInt8))
  | 0 => some []
  | n + 1 => match partsE m n with
    | none => none
    | some ps => match dec1 n (gAt m n) with
      | none => none
      | some p => some (ps ++ [p])
def headOK (m : List UInt8) : Bool := decide (m.length = 95) && (decide (m.take 3 = endE) && (decide ((m.drop 45).take 5 = midE) && decide (m.drop 92 = endE)))
def rowOf (ps : List (UInt8 × List UInt8)) : List UInt8 := ps.map (·.1)
def outOf (ps : List (UInt8 × List UInt8)) : List UInt8 := ps.flatMap (·.2)
def firstAt (row : List UInt8) : Option Nat := firstC.findIdx? (· == row)
def digsE (m : List UInt8) : Option (List UInt8) := if headOK m = true then match partsE m 12 with
    | none => none
    | some ps => (firstAt ((rowOf ps).take 6)).map fun f => UInt8.ofNat (48 + f) :: outOf ps
  else none
def readE (m : List UInt8) : List UInt8 × Int := match digsE m with
  | none => ([], 2)
  | some d => if checkOf (d.take 12) = digOf d 12 then (d, 0) else ([], 14)
theorem dec1_low (i : Nat) (s : List UInt8) (h : i < 6) : dec1 i s = dec1 0 s := by
  unfold dec1
  rw [if_neg (by omega), if_neg (by decide)]
theorem dec1_high (i : Nat) (s : List UInt8) (h : 6 ≤ i) : dec1 i s = dec1 6 s := by
  unfold dec1
  rw [if_pos h, if_pos (by decide)]
set_option maxRecDepth 100000 in
theorem dec_low : ∀ d < 10, dec1 0 (codeOf 76 d) = some (76, [UInt8.ofNat (48 + d)]) ∧ dec1 0 (codeOf 71 d) = some (71, [UInt8.ofNat (48 + d)]) := by decide +kernel
set_option maxRecDepth 100000 in
theorem dec_high : ∀ d < 10, dec1 6 (codeOf 82 d) = some (82, [UInt8.ofNat (48 + d)]) := by decide +kernel
set_option maxRecDepth 100000 in
theorem tab_all : ∀ e ∈ tabE 10, ∃ d, d < 10 ∧ (e.1 = 76 :: codeOf 76 d ∨ e.1 = 71 :: codeOf 71 d ∨ e.1 = 82 :: codeOf 82 d) ∧ e.2 = [UInt8.ofNat (48 + d)] := by decide +kernel
theorem look_mem {x n : List UInt8} (h : lookE x = some n) : ∃ d, d < 10 ∧ (x = 76 :: codeOf 76 d ∨ x = 71 :: codeOf 71 d ∨ x = 82 :: codeOf 82 d) ∧ n = [UInt8.ofNat (48 + d)] := by
  unfold lookE at h
  obtain ⟨e, he, rfl⟩ := Option.map_eq_some_iff.1 h
  have hx : e.1 = x := by simpa using List.find?_some he
  obtain ⟨d, hd, h1, h2⟩ := tab_all e (List.mem_of_find?_eq_some he)
  rw [hx] at h1
  exact ⟨d, hd, h1, h2⟩
theorem dec_mem {i : Nat} {s : List UInt8} {k : UInt8} {n : List UInt8} (h : dec1 i s = some (k, n)) : ∃ d, d < 10 ∧ s = codeOf k d ∧ n = [UInt8.ofNat (48 + d)] ∧ (6 ≤ i → k = 82) ∧ (i < 6 → k = 76 ∨ k = 71) := by
  unfold dec1 at h
  by_cases hi : 6 ≤ i
  · rw [if_pos hi] at h
    obtain ⟨n', hn, e⟩ := Option.map_eq_some_iff.1 h
    obtain ⟨rfl, rfl⟩ := Prod.mk.inj e
    obtain ⟨d, hd, h1, h2⟩ := look_mem hn
    rcases h1 with h1 | h1 | h1
    · exact absurd (List.cons.inj h1).1 (by decide)
    · exact absurd (List.cons.inj h1).1 (by decide)
    · exact ⟨d, hd, (List.cons.inj h1).2, h2, fun _ => rfl, fun h => by omega⟩
  · rw [if_neg hi] at h
    cases h76 : lookE (76 :: s) with
    | some n' =>
      rw [h76] at h
      obtain ⟨rfl, rfl⟩ := Prod.mk.inj (Option.some.inj h)
      obtain ⟨d, hd, h1, h2⟩ := look_mem h76
      rcases h1 with h1 | h1 | h1
      · exact ⟨d, hd, (List.cons.inj h1).2, h2, fun h => absurd h hi, fun _ => Or.inl rfl⟩
      · exact absurd (List.cons.inj h1).1 (by decide)
      · exact absurd (List.cons.inj h1).1 (by decide)
    | none =>
      rw [h76] at h
      obtain ⟨n', hn, e⟩ := Option.map_eq_some_iff.1 h
      obtain ⟨rfl, rfl⟩ := Prod.mk.inj e
      obtain ⟨d, hd, h1, h2⟩ := look_mem hn
      rcases h1 with h1 | h1 | h1
      · exact absurd (List.cons.inj h1).1 (by decide)
      · exact ⟨d, hd, (List.cons.inj h1).2, h2, fun h => absurd h hi, fun _ => Or.inr rfl⟩
      · exact absurd (List.cons.inj h1).1 (by decide)
/-- Not both an L and a G. -/
theorem look_one {s n : List UInt8} (h : lookE (76 :: s) = some n) : lookE (71 :: s) = none := by
  cases hg : lookE (71 :: s) with
  | none => rfl
  | some n' =>
    exfalso
    obtain ⟨d, hd, h1, -⟩ := look_mem h
    obtain ⟨d', hd', h1', -⟩ := look_mem hg
    have e1 : s = codeOf 76 d := by
      rcases h1 with h1 | h1 | h1
      · exact (List.cons.inj h1).2
      · exact absurd (List.cons.inj h1).1 (by decide)
      · exact absurd (List.cons.inj h1).1 (by decide)
    have e2 : s = codeOf 71 d' := by
      rcases h1' with h1' | h1' | h1'
      · exact absurd (List.cons.inj h1').1 (by decide)
      · exact (List.cons.inj h1').2
      · exact absurd (List.cons.inj h1').1 (by decide)
    have hne : ∀ a < 10, ∀ b < 10, codeOf 76 a ≠ codeOf 71 b := by decide +kernel
    exact hne d hd d' hd' (e1.symm.trans e2)
/-! the reference's search -/
def kindR (i : Nat) (s : List UInt8) (k : Nat) : Option UInt8 :=
  if 6 ≤ i then (if s = codeOf 82 k then some 82 else none) else if s = codeOf 76 k then some 76 else if s = codeOf 71 k then some 71 else none
def hitsE (i : Nat) (s : List UInt8) : Nat → List (UInt8 × List UInt8)
  | 0 => []
  | k + 1 => hitsE i s k ++ (match kindR i s k with | some c => [(c, [UInt8.ofNat (48 + k)])] | none => [])
theorem hits_low (i : Nat) (s : List UInt8) (h : i < 6) : ∀ k, hitsE i s k = hitsE 0 s k
  | 0 => rfl
  | k + 1 => by
    have e : kindR i s k = kindR 0 s k := by
      unfold kindR
      rw [if_neg (show ¬ 6 ≤ i by omega), if_neg (show ¬ 6 ≤ 0 by decide)]
    show hitsE i s k ++ (match kindR i s k with | some c => [(c, [UInt8.ofNat (48 + k)])] | none => []) = hitsE 0 s k ++ (match kindR 0 s k with | some c => [(c, [UInt8.ofNat (48 + k)])] | none => [])
    rw [hits_low i s h k, e]
theorem hits_high (i : Nat) (s : List UInt8) (h : 6 ≤ i) : ∀ k, hitsE i s k = hitsE 6 s k
  | 0 => rfl
  | k + 1 => by
    have e : kindR i s k = kindR 6 s k := by
      unfold kindR
      rw [if_pos h, if_pos (show 6 ≤ 6 by decide)]
    show hitsE i s k ++ (match kindR i s k with | some c => [(c, [UInt8.ofNat (48 + k)])] | none => []) = hitsE 6 s k ++ (match kindR 6 s k with | some c => [(c, [UInt8.ofNat (48 + k)])] | none => [])
    rw [hits_high i s h k, e]
set_option maxRecDepth 100000 in
theorem hits_codes : ∀ d < 10, hitsE 0 (codeOf 76 d) 10 = [(76, [UInt8.ofNat (48 + d)])] ∧ hitsE 0 (codeOf 71 d) 10 = [(71, [UInt8.ofNat (48 + d)])] ∧ hitsE 6 (codeOf 82 d) 10 = [(82, [UInt8.ofNat (48 + d)])] := by decide +kernel
theorem kindR_dec {i : Nat} {s : List UInt8} {k : Nat} {c : UInt8} (hk : k < 10) (h : kindR i s k = some c) : dec1 i s = some (c, [UInt8.ofNat (48 + k)]) := by
  unfold kindR at h
  by_cases hi : 6 ≤ i
  · rw [if_pos hi] at h
    by_cases h1 : s = codeOf 82 k
    · rw [if_pos h1] at h
      obtain rfl := Option.some.inj h
      rw [dec1_high i s hi, h1]
      exact dec_high k hk
    · rw [if_neg h1] at h; cases h
  · rw [if_neg hi] at h
    by_cases h1 : s = codeOf 76 k
    · rw [if_pos h1] at h
      obtain rfl := Option.some.inj h
      rw [dec1_low i s (by omega), h1]
      exact (dec_low k hk).1
    · rw [if_neg h1] at h
      by_cases h2 : s = codeOf 71 k
      · rw [if_pos h2] at h
        obtain rfl := Option.some.inj h
        rw [dec1_low i s (by omega), h2]
        exact (dec_low k hk).2
      · rw [if_neg h2] at h; cases h
theorem hits_none {i : Nat} {s : List UInt8} (h : dec1 i s = none) : ∀ k, k ≤ 10 → hitsE i s k = []
  | 0, _ => rfl
  | k + 1, hk => by
    show hitsE i s k ++ _ = []
    rw [hits_none h k (by omega)]
    cases hc : kindR i s k with
    | none => rfl
    | some c =>
      have := kindR_dec (by omega) hc
      rw [h] at this
      cases this
theorem hits_all (i : Nat) (s : List UInt8) : hitsE i s 10 = (dec1 i s).toList := by
  cases h : dec1 i s with
  | none => exact hits_none h 10 (Nat.le_refl _)
  | some p =>
    obtain ⟨k, n⟩ := p
    obtain ⟨d, hd, rfl, rfl, h1, h2⟩ := dec_mem h
    have hc := hits_codes d hd
    by_cases hi : 6 ≤ i
    · obtain rfl := h1 hi
      rw [hits_high i _ hi]
      exact hc.2.2
    · rw [hits_low i _ (by omega)]
      rcases h2 (by omega) with rfl | rfl
      · exact hc.1
      · exact hc.2.1
/-! partsE -/
theorem parts_len {m : List UInt8} : ∀ {n : Nat} {ps : List (UInt8 × List UInt8)}, partsE m n = some ps → ps.length = n
  | 0, ps, h => by obtain rfl := Option.some.inj h; rfl
  | n + 1, ps, h => by
    unfold partsE at h
    cases hp : partsE m n with
    | none => rw [hp] at h; cases h
    | some q =>
      rw [hp] at h
      cases hd : dec1 n (gAt m n) with
      | none => simp only [hd] at h; cases h
      | some p =>
        simp only [hd] at h
        obtain rfl := Option.some.inj h
        rw [List.length_append, parts_len hp]
        rfl
theorem parts_at {m : List UInt8} : ∀ {n : Nat} {ps : List (UInt8 × List UInt8)}, partsE m n = some ps → ∀ i p, ps[i]? = some p → dec1 i (gAt m i) = some p
  | 0, ps, h, i, p, hi => by obtain rfl := Option.some.inj h; simp at hi
  | n + 1, ps, h, i, p, hi => by
    unfold partsE at h
    cases hp : partsE m n with
    | none => rw [hp] at h; cases h
    | some q =>
      rw [hp] at h
      cases hd : dec1 n (gAt m n) with
      | none => simp only [hd] at h; cases h
      | some r =>
        simp only [hd] at h
        obtain rfl := Option.some.inj h
        have hl := parts_len hp
        by_cases hlt : i < n
        · rw [List.getElem?_append_left (by omega)] at hi
          exact parts_at hp i p hi
        · have hib : i < (q ++ [r]).length := (List.getElem?_eq_some_iff.1 hi).1
          rw [List.length_append] at hib
          have : ([r] : List (UInt8 × List UInt8)).length = 1 := rfl
          obtain rfl : i = n := by omega
          rw [List.getElem?_append_right (by omega), hl, Nat.sub_self] at hi
          simp only [List.getElem?_cons_zero, Option.some.injEq] at hi
          rw [← hi]
          exact hd
theorem parts_none {m : List UInt8} {n : Nat} (hd : dec1 n (gAt m n) = none) : ∀ k, partsE m (n + 1 + k) = none
  | 0 => by
    show (match partsE m n with | none => none | some ps => match dec1 n (gAt m n) with | none => none | some p => some (ps ++ [p])) = _
    cases partsE m n with
    | none => rfl
    | some ps => simp only [hd]
  | k + 1 => by
    show (match partsE m (n + 1 + k) with | none => none | some ps => match dec1 (n + 1 + k) (gAt m (n + 1 + k)) with | none => none | some p => some (ps ++ [p])) = _
    rw [parts_none hd k]
theorem parts_none12 {m : List UInt8} {n : Nat} (hn : n < 12) (hd : dec1 n (gAt m n) = none) : partsE m 12 = none := by
  have := parts_none hd (12 - (n + 1))
  rwa [show n + 1 + (12 - (n + 1)) = 12 by omega] at this
/-! the code's own digits are read -/
theorem codeOf_len : ∀ k : UInt8, ∀ d < 10, (codeOf k d).length = 7 := by
  intro k d hd
  have h1 : ∀ d < 10, (leftC.getD d []).length = 7 := by decide
  unfold codeOf exB
  split
  · rw [List.length_map]; exact h1 d hd
  · split
    · rw [List.length_reverse, List.length_map]; exact h1 d hd
    · exact h1 d hd
end Go.Proofs.YtkipcobpnecmhaaGreatDoor


/-! EAN codes in plain lists: what is drawn of digits is read as these digits, also backwards. -/
namespace Go.Proofs.YtkipcobpnecmhaaGreatDoor

/-! a code that is read is of bits -/
theorem made_bits {l : List UInt8} (h : ∀ i, i < l.length → ∃ b, l[i]? = some b ∧ (b = 48 ∨ b = 49)) : madeOf l [48, 49] = true := by
  unfold madeOf
  rw [List.all_eq_true]
  intro b hb
  obtain ⟨i, hi, rfl⟩ := List.getElem_of_mem hb
  obtain ⟨b', h1, h2⟩ := h i hi
  rw [List.getElem?_eq_getElem hi] at h1
  rw [Option.some.inj h1]
  rcases h2 with rfl | rfl <;> rfl
theorem codeOf_bits : ∀ d < 10, ∀ i < 7, (∃ b, (codeOf 76 d)[i]? = some b ∧ (b = 48 ∨ b = 49)) ∧ (∃ b, (codeOf 71 d)[i]? = some b ∧ (b = 48 ∨ b = 49)) ∧ (∃ b, (codeOf 82 d)[i]? = some b ∧ (b = 48 ∨ b = 49)) := by
  have h : ∀ d < 10, ∀ i < 7, ((codeOf 76 d)[i]? = some 48 ∨ (codeOf 76 d)[i]? = some 49) ∧ ((codeOf 71 d)[i]? = some 48 ∨ (codeOf 71 d)[i]? = some 49) ∧ ((codeOf 82 d)[i]? = some 48 ∨ (codeOf 82 d)[i]? = some 49) := by decide +kernel
  intro d hd i hi
  obtain ⟨h1, h2, h3⟩ := h d hd i hi
  exact ⟨by rcases h1 with h | h; exact ⟨_, h, Or.inl rfl⟩; exact ⟨_, h, Or.inr rfl⟩, by rcases h2 with h | h; exact ⟨_, h, Or.inl rfl⟩; exact ⟨_, h, Or.inr rfl⟩, by rcases h3 with h | h; exact ⟨_, h, Or.inl rfl⟩; exact ⟨_, h, Or.inr rfl⟩⟩
theorem parts_made {m : List UInt8} {ps : List (UInt8 × List UInt8)} (hh : headOK m = true) (hp : partsE m 12 = some ps) : madeOf m [48, 49] = true := by
  unfold headOK at hh
  simp only [Bool.and_eq_true, decide_eq_true_eq] at hh
  obtain ⟨hl, h3, h5, h9⟩ := hh
  apply made_bits
  intro j hj
  have grp : ∀ i, i < 12 → ∀ o, o < 7 → ∃ b, m[gFrom i + o]? = some b ∧ (b = 48 ∨ b = 49) := fun i hi o ho => by
    have hlen := parts_len hp
    obtain ⟨⟨k, n⟩, hg⟩ : ∃ p, ps[i]? = some p := ⟨_, List.getElem?_eq_getElem (by omega)⟩
    have hd := parts_at hp i _ hg
    obtain ⟨d, hd10, hc, -, hk1, hk2⟩ := dec_mem hd
    have hb := codeOf_bits d hd10 o ho
    have hgo : (gAt m i)[o]? = m[gFrom i + o]? := by
      unfold gAt
      rw [List.getElem?_take_of_lt ho, List.getElem?_drop]
    rw [← hgo, hc]
    by_cases h6 : 6 ≤ i
    · rw [hk1 h6]; exact hb.2.2
    · rcases hk2 (by omega) with rfl | rfl
      · exact hb.1
      · exact hb.2.1
  by_cases c1 : j < 3
  · have : m[j]? = endE[j]? := by rw [← h3, List.getElem?_take_of_lt c1]
    rw [this]
    have : j = 0 ∨ j = 1 ∨ j = 2 := by omega
    rcases this with rfl | rfl | rfl
    · exact ⟨49, rfl, Or.inr rfl⟩
    · exact ⟨48, rfl, Or.inl rfl⟩
    · exact ⟨49, rfl, Or.inr rfl⟩
  · by_cases c2 : j < 45
    · have h := grp ((j - 3) / 7) (by omega) ((j - 3) % 7) (by omega)
      have e : gFrom ((j - 3) / 7) + (j - 3) % 7 = j := by unfold gFrom; rw [if_neg (by omega)]; omega
      rwa [e] at h
    · by_cases c3 : j < 50
      · have : m[j]? = midE[j - 45]? := by rw [← h5, List.getElem?_take_of_lt (by omega), List.getElem?_drop, show 45 + (j - 45) = j by omega]
        rw [this]
        have : j = 45 ∨ j = 46 ∨ j = 47 ∨ j = 48 ∨ j = 49 := by omega
        rcases this with rfl | rfl | rfl | rfl | rfl
        · exact ⟨48, rfl, Or.inl rfl⟩
        · exact ⟨49, rfl, Or.inr rfl⟩
        · exact ⟨48, rfl, Or.inl rfl⟩
        · exact ⟨49, rfl, Or.inr rfl⟩
        · exact ⟨48, rfl, Or.inl rfl⟩
      · by_cases c4 : j < 92
        · have h := grp ((j - 8) / 7) (by omega) ((j - 8) % 7) (by omega)
          have e : gFrom ((j - 8) / 7) + (j - 8) % 7 = j := by unfold gFrom; rw [if_pos (by omega)]; omega
          rwa [e] at h
        · have : m[j]? = endE[j - 92]? := by rw [← h9, List.getElem?_drop, show 92 + (j - 92) = j by omega]
          rw [this]
          have : j = 92 ∨ j = 93 ∨ j = 94 := by omega
          rcases this with rfl | rfl | rfl
          · exact ⟨49, rfl, Or.inr rfl⟩
          · exact ⟨48, rfl, Or.inl rfl⟩
          · exact ⟨49, rfl, Or.inr rfl⟩
theorem digs_made {m : List UInt8} (h : madeOf m [48, 49] = false) : digsE m = none := by
  unfold digsE
  by_cases hh : headOK m = true
  · rw [if_pos hh]
    cases hp : partsE m 12 with
    | none => rfl
    | some ps =>
      have := parts_made hh hp
      rw [h] at this
      cases this
  · rw [if_neg hh]
/-- The digits that are read. -/
theorem digs_digits {m ds : List UInt8} (h : digsE m = some ds) : ds.length = 13 ∧ madeOf ds digits10 = true := by
  unfold digsE at h
  by_cases hh : headOK m = true
  · rw [if_pos hh] at h
    cases hp : partsE m 12 with
    | none => rw [hp] at h; cases h
    | some ps =>
      rw [hp] at h
      obtain ⟨f, hf, rfl⟩ := Option.map_eq_some_iff.1 h
      have hf10 : f < 10 := by
        unfold firstAt at hf
        exact (List.findIdx?_eq_some_iff_findIdx_eq.1 hf).1
      have hl := parts_len hp
      have all1 : ∀ p ∈ ps, ∃ d, d < 10 ∧ p.2 = [UInt8.ofNat (48 + d)] := fun p hpm => by
        obtain ⟨i, hi, rfl⟩ := List.getElem_of_mem hpm
        have hd := parts_at hp i _ (List.getElem?_eq_getElem hi)
        obtain ⟨d, hd10, -, hn, -, -⟩ := dec_mem (k := ps[i].1) (n := ps[i].2) hd
        exact ⟨d, hd10, hn⟩
      have key : ∀ qs : List (UInt8 × List UInt8), (∀ p ∈ qs, ∃ d, d < 10 ∧ p.2 = [UInt8.ofNat (48 + d)]) → (outOf qs).length = qs.length ∧ ∀ b ∈ outOf qs, b ∈ digits10 := by
        intro qs
        induction qs with
        | nil => intro _; exact ⟨rfl, fun b hb => by simp [outOf] at hb⟩
        | cons q qs ih =>
          intro hq
          obtain ⟨d, hd10, hn⟩ := hq q (List.mem_cons_self ..)
          obtain ⟨i1, i2⟩ := ih fun p hp => hq p (List.mem_cons_of_mem _ hp)
          have e : outOf (q :: qs) = UInt8.ofNat (48 + d) :: outOf qs := by
            unfold outOf
            rw [List.flatMap_cons, hn]
            rfl
          rw [e]
          refine ⟨by rw [List.length_cons, List.length_cons, i1], fun b hb => ?_⟩
          rcases List.mem_cons.1 hb with rfl | hb
          · have : ∀ d < 10, UInt8.ofNat (48 + d) ∈ digits10 := by decide
            exact this d hd10
          · exact i2 b hb
      obtain ⟨k1, k2⟩ := key ps all1
      refine ⟨by rw [List.length_cons, k1, hl], ?_⟩
      unfold madeOf
      rw [List.all_eq_true]
      intro b hb
      rcases List.mem_cons.1 hb with rfl | hb
      · have : ∀ d < 10, (digits10.contains (UInt8.ofNat (48 + d))) = true := by decide
        exact this f hf10
      · simpa using k2 b hb
  · rw [if_neg hh] at h
    cases h

end Go.Proofs.YtkipcobpnecmhaaGreatDoor
