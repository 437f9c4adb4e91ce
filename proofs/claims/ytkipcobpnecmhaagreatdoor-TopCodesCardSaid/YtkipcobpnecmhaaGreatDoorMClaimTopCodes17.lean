/- bar.Draw. -/
import Derived.Test.YtkipcobpnecmhaaGreatDoorMClaimTopCodes13
import Derived.Test.YtkipcobpnecmhaaGreatDoorMClaimTopCodes0
import Derived.Test.YtkipcobpnecmhaaGreatDoorMClaimTopCodes4
import Derived.Test.YtkipcobpnecmhaaGreatDoorMClaimTopCodes1
import Derived.Shelf.Strings.Cut
import Derived.Lib.CutLaws
import Derived.Lib.SlTrimSet

namespace Go.Proofs.YtkipcobpnecmhaaGreatDoor
open Go.RowKit Go.Shelf

theorem trim_any (l cs : List UInt8) (w : World) (hl : l.length ≤ 9223372036854775807) (hcs : cs.length ≤ 100) (ha : ∀ (j : Nat) b, cs[j]? = some b → b.toNat < 128) :
    Calls Tryz.prog 34 #[.string ⟨l.toArray⟩, .string ⟨cs.toArray⟩] w fun e w' => e = .returned (.string ⟨(Lib.trimS l cs).toArray⟩) ∧ Bl w w' := by
  have h := Any.strings_Trim_laid Tryz.lays160 (by kernel_rfl) ⟨l.toArray⟩ ⟨cs.toArray⟩ w (by rw [Lib.size_mk]; exact hl) (by rw [Lib.size_mk]; omega) ha
  refine Calls.mono (R := fun e w' => e = .returned (.string ⟨(Lib.trimS l cs).toArray⟩) ∧ Below w.heap.size w w') h ?_
  rintro e w' ⟨rfl, hb⟩
  exact ⟨rfl, hb⟩
/-- All signs of a text are of a set. -/
def madeOf (l cs : List UInt8) : Bool := l.all fun b => cs.contains b
theorem trim_made (l cs : List UInt8) : (Lib.trimS l cs).isEmpty = madeOf l cs := by
  rw [Bool.eq_iff_iff, List.isEmpty_iff, trimS_nil_iff]
  unfold madeOf
  rw [List.all_eq_true]
def digits10 : List UInt8 := [48, 49, 50, 51, 52, 53, 54, 55, 56, 57]
theorem digits_ascii : ∀ (j : Nat) b, digits10[j]? = some b → b.toNat < 128 := by
  intro j b h
  have hm := List.mem_of_getElem? h
  have : ∀ b ∈ digits10, b.toNat < 128 := by decide
  exact this b hm
/-- So many digits. -/
def digB (l : List UInt8) (n : Nat) : Bool := decide (l.length = n) && madeOf l digits10
set_option maxRecDepth 100000 in
set_option maxHeartbeats 1000000 in
theorem areDigits_any (l : List UInt8) (n : Nat) (w : World) (hl : l.length ≤ 9223372036854775807) (_hn : n ≤ 100) :
    Calls Tryz.prog 23 #[.string ⟨l.toArray⟩, .int .i64 n] w fun e w' => e = .returned (.bool (digB l n)) ∧ Bl w w' := by
  have Ht := Lib.hid (trim_any l digits10 w hl (by decide) digits_ascii)
  have hsz : (⟨l.toArray⟩ : ByteArray).size = l.length := Lib.size_mk l
  go_enter Tryz.func23, Tryz.ntmps23
  by_cases h : l.length = n
  · have hq : ((l.length : Int) == (n : Int)) = true := by simp [h]
    have HD := Lib.hid (show digB l n = (Lib.trimS l digits10).isEmpty by unfold digB; rw [decide_eq_true h, trim_made]; rfl)
    clear h
    go_wp2_with fail
    refine Ht.out.mono ?_
    rintro e w1 ⟨rfl, hb⟩
    go_wp2_with fail
    go_ret
    exact ⟨ret_bool HD.out.symm, hb⟩
  · have hq : ((l.length : Int) == (n : Int)) = false := by rw [beq_eq_false_iff_ne]; omega
    have HD := Lib.hid (show digB l n = false by unfold digB; rw [decide_eq_false h]; rfl)
    clear h
    go_wp2_with fail
    go_ret
    exact ⟨ret_bool HD.out.symm, Bl.refl _⟩
/-- The sum of digits, each second one three times. -/
def digOf (l : List UInt8) (i : Nat) : Nat := (l.getD i 48).toNat - 48
def checkSum (l : List UInt8) : Nat → Nat
  | 0 => 0
  | i + 1 => checkSum l i + digOf l i * (1 + i % 2 * 2)
theorem checkSum_le (l : List UInt8) (h : ∀ i, digOf l i ≤ 9) : ∀ n, checkSum l n ≤ n * 27
  | 0 => Nat.le_refl _
  | n + 1 => by
    have ih := checkSum_le l h n
    have h1 : digOf l n * (1 + n % 2 * 2) ≤ 9 * 3 := Nat.mul_le_mul (h n) (by omega)
    show checkSum l n + digOf l n * (1 + n % 2 * 2) ≤ _
    omega
def checkOf (l : List UInt8) : Nat := (10 - checkSum l 12 % 10) % 10
theorem made_at {l : List UInt8} (h : madeOf l digits10 = true) {i : Nat} {b : UInt8} (hi : l[i]? = some b) : 48 ≤ b.toNat ∧ b.toNat ≤ 57 := by
  unfold madeOf at h
  have h1 := List.all_eq_true.1 h b (List.mem_of_getElem? hi)
  have h2 : ∀ b ∈ digits10, 48 ≤ b.toNat ∧ b.toNat ≤ 57 := by decide
  exact h2 b (by simpa using h1)
theorem digOf_le {l : List UInt8} (h : madeOf l digits10 = true) (i : Nat) : digOf l i ≤ 9 := by
  unfold digOf
  rw [List.getD_eq_getElem?_getD]
  cases hg : l[i]? with
  | none => show (48 : UInt8).toNat - 48 ≤ 9; decide
  | some b =>
    have := made_at h hg
    show b.toNat - 48 ≤ 9
    omega
set_option maxRecDepth 100000 in
set_option maxHeartbeats 2000000 in
theorem checkDigit_any (l : List UInt8) (w : World) (hl : l.length ≤ 9223372036854775807) :
    Calls Tryz.prog 24 #[.string ⟨l.toArray⟩] w fun e w' => e = .returned (.tuple #[.int .i64 (if digB l 12 = true then (checkOf l : Int) else 0), .int .i64 (if digB l 12 = true then 0 else 2)]) ∧ Bl w w' := by
  have Hd := Lib.hid (areDigits_any l 12 w hl (by decide))
  have hsz : (⟨l.toArray⟩ : ByteArray).size = l.length := Lib.size_mk l
  obtain ⟨db, hdb⟩ : ∃ db, db = digB l 12 := ⟨_, rfl⟩
  rw [← hdb] at Hd ⊢
  have HDB := Lib.hid hdb
  clear hdb
  go_enter Tryz.func24, Tryz.ntmps24
  go_wp2_with fail
  refine Hd.out.mono ?_
  rintro e w1 ⟨rfl, hb1⟩
  clear Hd
  cases hdb : db with
  | false =>
    subst hdb
    go_wp2_with fail
    exact bodyPost_ret (v := .tuple #[.int .i64 0, .int .i64 2]) (by simp [results, Tryz.results24, go_sem]) rfl ⟨rfl, hb1⟩
  | true =>
    have hd := HDB.out
    rw [hdb] at hd
    unfold digB at hd
    simp only [Bool.true_eq, Bool.and_eq_true, decide_eq_true_eq] at hd
    obtain ⟨hlen, hmade⟩ := hd
    have HMade := Lib.hid hmade; have HLen := Lib.hid hlen
    have hlenI : (l.length : Int) = 12 := by omega
    subst hdb
    clear hmade hlen
    go_wp2_with fail
    go_loopw [4, 11] (fun u v wr => ∃ i : Nat, i ≤ 12 ∧ v = .int .i64 i ∧ u = .int .i64 (checkSum l i : Int) ∧ Bl w wr) (fun _ v _ => 12 - (RowKit.intOf v).toNat)
    case atStart => exact ⟨0, by omega, rfl, rfl, hb1⟩
    case round =>
      obtain ⟨i, hi, rfl, rfl, hbr⟩ := hrel
      by_cases hlt : i < 12
      · have hg : l[i]? = some l[i] := List.getElem?_eq_getElem (by have := HLen.out; omega)
        obtain ⟨b, hb⟩ : ∃ b, b = l[i]'(by have := HLen.out; omega) := ⟨_, rfl⟩
        rw [← hb] at hg
        obtain ⟨h1, h2⟩ := bytes_at hg
        have hma := made_at HMade.out hg
        have hdg : digOf l i = b.toNat - 48 := by unfold digOf; rw [List.getD_eq_getElem?_getD, hg]; rfl
        have hst : checkSum l (i + 1) = checkSum l i + digOf l i * (1 + i % 2 * 2) := rfl
        have hle := checkSum_le l (digOf_le HMade.out) i
        have hd9 := digOf_le HMade.out i
        obtain ⟨s, hs⟩ : ∃ s, s = checkSum l i := ⟨_, rfl⟩
        obtain ⟨d, hd⟩ : ∃ d, d = digOf l i := ⟨_, rfl⟩
        rw [← hs] at hst hle ⊢
        rw [← hd] at hst hd9 hdg
        have hr2 : i % 2 = 0 ∨ i % 2 = 1 := by omega
        have hdb2 : (b.toNat : Int) - 48 = (d : Int) := by omega
        have hmr : (i : Int) % 2 = ((i % 2 : Nat) : Int) := by omega
        obtain ⟨r, hr⟩ : ∃ r, r = i % 2 := ⟨_, rfl⟩
        rw [← hr] at hst hr2 hmr
        have HSt := Lib.hid hst; have HDb := Lib.hid hdb2
        clear hg hb hs hd hr hst hdg hdb2
        rcases hr2 with rfl | rfl
        · have HF := Lib.hid (show (s : Int) + (d : Int) = ((checkSum l (i + 1) : Nat) : Int) by rw [HSt.out]; omega)
          clear HSt
          go_wp2_with fail
          exact ⟨⟨i + 1, by omega, by go_num, by rw [← HF.out, ← HDb.out], hbr⟩, by simp [RowKit.intOf] <;> omega⟩
        · have HF := Lib.hid (show (s : Int) + (d : Int) * 3 = ((checkSum l (i + 1) : Nat) : Int) by rw [HSt.out]; omega)
          clear HSt
          go_wp2_with fail
          exact ⟨⟨i + 1, by omega, by go_num, by rw [← HF.out, ← HDb.out], hbr⟩, by simp [RowKit.intOf] <;> omega⟩
      · obtain rfl : i = 12 := by omega
        go_wp2_with fail
        have he : -((checkSum l 12 : Int) % 10) % 10 = (checkOf l : Int) := by unfold checkOf; omega
        refine bodyPost_ret (v := .tuple #[.int .i64 (checkOf l), .int .i64 0]) (by simp [results, Tryz.results24, go_sem]; exact he) rfl ⟨rfl, hbr⟩

end Go.Proofs.YtkipcobpnecmhaaGreatDoor


/-! EAN codes in plain lists: the modules of digits, and what is read of modules. -/
namespace Go.Proofs.YtkipcobpnecmhaaGreatDoor

def leftC : List (List UInt8) := [[48, 48, 48, 49, 49, 48, 49], [48, 48, 49, 49, 48, 48, 49], [48, 48, 49, 48, 48, 49, 49], [48, 49, 49, 49, 49, 48, 49], [48, 49, 48, 48, 48, 49, 49], [48, 49, 49, 48, 48, 48, 49], [48, 49, 48, 49, 49, 49, 49], [48, 49, 49, 49, 48, 49, 49], [48, 49, 49, 48, 49, 49, 49], [48, 48, 48, 49, 48, 49, 49]]
def firstC : List (List UInt8) := [[76, 76, 76, 76, 76, 76], [76, 76, 71, 76, 71, 71], [76, 76, 71, 71, 76, 71], [76, 76, 71, 71, 71, 76], [76, 71, 76, 76, 71, 71], [76, 71, 71, 76, 76, 71], [76, 71, 71, 71, 76, 76], [76, 71, 76, 71, 76, 71], [76, 71, 76, 71, 71, 76], [76, 71, 71, 76, 71, 76]]
def exB (l : List UInt8) : List UInt8 := l.map fun b => 97 - b
def codeOf (k : UInt8) (d : Nat) : List UInt8 := if k = 82 then exB (leftC.getD d []) else if k = 71 then (exB (leftC.getD d [])).reverse else leftC.getD d []
def midE : List UInt8 := [48, 49, 48, 49, 48]
def endE : List UInt8 := [49, 48, 49]
def rowE (ds : List UInt8) : List UInt8 := firstC.getD (digOf ds 0) []
def kindE (ds : List UInt8) (i : Nat) : UInt8 := if 7 ≤ i then 82 else (rowE ds).getD (i - 1) 0
def eanPart (ds : List UInt8) : Nat → List UInt8
  | 0 => endE
  | i + 1 => eanPart ds i ++ (if i = 6 then midE else []) ++ codeOf (kindE ds (i + 1)) (digOf ds (i + 1))
def eanOf (ds : List UInt8) : List UInt8 := eanPart ds 12 ++ endE
/-- The table of the codes, the newest entry first. -/
def tabE : Nat → List (List UInt8 × List UInt8)
  | 0 => []
  | d + 1 => (71 :: (exB (leftC.getD d [])).reverse, [UInt8.ofNat (48 + d)]) :: (82 :: exB (leftC.getD d []), [UInt8.ofNat (48 + d)]) :: (76 :: leftC.getD d [], [UInt8.ofNat (48 + d)]) :: tabE d
def lookE (x : List UInt8) : Option (List UInt8) := ((tabE 10).find? fun e => e.1 == x).map (·.2)
def dec1 (i : Nat) (s : List UInt8) : Option (UInt8 × List UInt8) :=
  if 6 ≤ i then (lookE (82 :: s)).map fun n => (82, n) else match lookE (76 :: s) with
    | some n => some (76, n)
    | none => (lookE (71 :: s)).map fun n => (71, n)
def gFrom (i : Nat) : Nat := 3 + 7 * i + (if 6 ≤ i then 5 else 0)
def gAt (m : List UInt8) (i : Nat) : List UInt8 := (m.drop (gFrom i)).take 7
def partsE (m : List UInt8) : Nat → Option (List (UInt8 × List UInt8))
  | 0 => some []
  | n + 1 => match partsE m n with
    | none => none
    | some ps => match dec1 n (gAt m n) with
      | none => none
      | some p => some (ps ++ [p])
def headOK (m : List UInt8) : Bool := decide (m.length = 95) && (decide (m.take 3 = endE) && (decide ((m.drop 45).take 5 = midE) && decide (m.drop 92 = endE)))
def rowOf (ps : List (UInt8 × List UInt8)) : List UInt8 := ps.map (·.1)
def outOf (ps : List (UInt8 × List UInt8)) : List UInt8 := ps.flatMap (·.2)
def firstAt (row : List UInt8) : Option Nat := firstC.findIdx? (· == row)
def digsE (m : List UInt8) : Option (List UInt8) := if headOK m = true then match partsE m 12 with
    | none => none
    | some ps => (firstAt ((rowOf ps).take 6)).map fun f => UInt8.ofNat (48 + f) :: outOf ps
  else none
def readE (m : List UInt8) : List UInt8 × Int := match digsE m with
  | none => ([], 2)
  | some d => if checkOf (d.take 12) = digOf d 12 then (d, 0) else ([], 14)
def eitherE (m : List UInt8) : List UInt8 × Int := if (readE m).2 = 2 then readE m.reverse else readE m

theorem dec1_low (i : Nat) (s : List UInt8) (h : i < 6) : dec1 i s = dec1 0 s := by
  unfold dec1
  rw [if_neg (by omega), if_neg (by decide)]
theorem dec1_high (i : Nat) (s : List UInt8) (h : 6 ≤ i) : dec1 i s = dec1 6 s := by
  unfold dec1
  rw [if_pos h, if_pos (by decide)]
set_option maxRecDepth 100000 in
theorem dec_low : ∀ d < 10, dec1 0 (codeOf 76 d) = some (76, [UInt8.ofNat (48 + d)]) ∧ dec1 0 (codeOf 71 d) = some (71, [UInt8.ofNat (48 + d)]) := by decide +kernel
set_option maxRecDepth 100000 in
theorem dec_high : ∀ d < 10, dec1 6 (codeOf 82 d) = some (82, [UInt8.ofNat (48 + d)]) := by decide +kernel
set_option maxRecDepth 100000 in
theorem tab_all : ∀ e ∈ tabE 10, ∃ d, d < 10 ∧ (e.1 = 76 :: codeOf 76 d ∨ e.1 = 71 :: codeOf 71 d ∨ e.1 = 82 :: codeOf 82 d) ∧ e.2 = [UInt8.ofNat (48 + d)] := by decide +kernel
theorem look_mem {x n : List UInt8} (h : lookE x = some n) : ∃ d, d < 10 ∧ (x = 76 :: codeOf 76 d ∨ x = 71 :: codeOf 71 d ∨ x = 82 :: codeOf 82 d) ∧ n = [UInt8.ofNat (48 + d)] := by
  unfold lookE at h
  obtain ⟨e, he, rfl⟩ := Option.map_eq_some_iff.1 h
  have hx : e.1 = x := by simpa using List.find?_some he
  obtain ⟨d, hd, h1, h2⟩ := tab_all e (List.mem_of_find?_eq_some he)
  rw [hx] at h1
  exact ⟨d, hd, h1, h2⟩
theorem dec_mem {i : Nat} {s : List UInt8} {k : UInt8} {n : List UInt8} (h : dec1 i s = some (k, n)) : ∃ d, d < 10 ∧ s = codeOf k d ∧ n = [UInt8.ofNat (48 + d)] ∧ (6 ≤ i → k = 82) ∧ (i < 6 → k = 76 ∨ k = 71) := by
  unfold dec1 at h
  by_cases hi : 6 ≤ i
  · rw [if_pos hi] at h
    obtain ⟨n', hn, e⟩ := Option.map_eq_some_iff.1 h
    obtain ⟨rfl, rfl⟩ := Prod.mk.inj e
    obtain ⟨d, hd, h1, h2⟩ := look_mem hn
    rcases h1 with h1 | h1 | h1
    · exact absurd (List.cons.inj h1).1 (by decide)
    · exact absurd (List.cons.inj h1).1 (by decide)
    · exact ⟨d, hd, (List.cons.inj h1).2, h2, fun _ => rfl, fun h => by omega⟩
  · rw [if_neg hi] at h
    cases h76 : lookE (76 :: s) with
    | some n' =>
      rw [h76] at h
      obtain ⟨rfl, rfl⟩ := Prod.mk.inj (Option.some.inj h)
      obtain ⟨d, hd, h1, h2⟩ := look_mem h76
      rcases h1 with h1 | h1 | h1
      · exact ⟨d, hd, (List.cons.inj h1).2, h2, fun h => absurd h hi, fun _ => Or.inl rfl⟩
      · exact absurd (List.cons.inj h1).1 (by decide)
      · exact absurd (List.cons.inj h1).1 (by decide)
    | none =>
      rw [h76] at h
      obtain ⟨n', hn, e⟩ := Option.map_eq_some_iff.1 h
      obtain ⟨rfl, rfl⟩ := Prod.mk.inj e
      obtain ⟨d, hd, h1, h2⟩ := look_mem hn
      rcases h1 with h1 | h1 | h1
      · exact absurd (List.cons.inj h1).1 (by decide)
      · exact ⟨d, hd, (List.cons.inj h1).2, h2, fun h => absurd h hi, fun _ => Or.inr rfl⟩
      · exact absurd (List.cons.inj h1).1 (by decide)
/-- Not both an L and a G. -/
theorem look_one {s n : List UInt8} (h : lookE (76 :: s) = some n) : lookE (71 :: s) = none := by
  cases hg : lookE (71 :: s) with
  | none => rfl
  | some n' =>
    exfalso
    obtain ⟨d, hd, h1, -⟩ := look_mem h
    obtain ⟨d', hd', h1', -⟩ := look_mem hg
    have e1 : s = codeOf 76 d := by
      rcases h1 with h1 | h1 | h1
      · exact (List.cons.inj h1).2
      · exact absurd (List.cons.inj h1).1 (by decide)
      · exact absurd (List.cons.inj h1).1 (by decide)
    have e2 : s = codeOf 71 d' := by
      rcases h1' with h1' | h1' | h1'
      · exact absurd (List.cons.inj h1').1 (by decide)
      · exact (List.cons.inj h1').2
      · exact absurd (List.cons.inj h1').1 (by decide)
    have hne : ∀ a < 10, ∀ b < 10, codeOf 76 a ≠ codeOf 71 b := by decide +kernel
    exact hne d hd d' hd' (e1.symm.trans e2)
/-! the reference's search -/
/-! partsE -/
theorem parts_len {m : List UInt8} : ∀ {n : Nat} {ps : List (UInt8 × List UInt8)}, partsE m n = some ps → ps.length = n
  | 0, ps, h => by obtain rfl := Option.some.inj h; rfl
  | n + 1, ps, h => by
    unfold partsE at h
    cases hp : partsE m n with
    | none => rw [hp] at h; cases h
    | some q =>
      rw [hp] at h
      cases hd : dec1 n (gAt m n) with
      | none => simp only [hd] at h; cases h
      | some p =>
        simp only [hd] at h
        obtain rfl := Option.some.inj h
        rw [List.length_append, parts_len hp]
        rfl
theorem parts_at {m : List UInt8} : ∀ {n : Nat} {ps : List (UInt8 × List UInt8)}, partsE m n = some ps → ∀ i p, ps[i]? = some p → dec1 i (gAt m i) = some p
  | 0, ps, h, i, p, hi => by obtain rfl := Option.some.inj h; simp at hi
  | n + 1, ps, h, i, p, hi => by
    unfold partsE at h
    cases hp : partsE m n with
    | none => rw [hp] at h; cases h
    | some q =>
      rw [hp] at h
      cases hd : dec1 n (gAt m n) with
      | none => simp only [hd] at h; cases h
      | some r =>
        simp only [hd] at h
        obtain rfl := Option.some.inj h
        have hl := parts_len hp
        by_cases hlt : i < n
        · rw [List.getElem?_append_left (by omega)] at hi
          exact parts_at hp i p hi
        · have hib : i < (q ++ [r]).length := (List.getElem?_eq_some_iff.1 hi).1
          rw [List.length_append] at hib
          have : ([r] : List (UInt8 × List UInt8)).length = 1 := rfl
          obtain rfl : i = n := by omega
          rw [List.getElem?_append_right (by omega), hl, Nat.sub_self] at hi
          simp only [List.getElem?_cons_zero, Option.some.injEq] at hi
          rw [← hi]
          exact hd
theorem parts_some {m : List UInt8} {n : Nat} {ps : List (UInt8 × List UInt8)} {p : UInt8 × List UInt8} (h : partsE m n = some ps) (hd : dec1 n (gAt m n) = some p) : partsE m (n + 1) = some (ps ++ [p]) := by
  show (match partsE m n with | none => none | some ps => match dec1 n (gAt m n) with | none => none | some p => some (ps ++ [p])) = _
  rw [h]
  simp only [hd]
theorem parts_none {m : List UInt8} {n : Nat} (hd : dec1 n (gAt m n) = none) : ∀ k, partsE m (n + 1 + k) = none
  | 0 => by
    show (match partsE m n with | none => none | some ps => match dec1 n (gAt m n) with | none => none | some p => some (ps ++ [p])) = _
    cases partsE m n with
    | none => rfl
    | some ps => simp only [hd]
  | k + 1 => by
    show (match partsE m (n + 1 + k) with | none => none | some ps => match dec1 (n + 1 + k) (gAt m (n + 1 + k)) with | none => none | some p => some (ps ++ [p])) = _
    rw [parts_none hd k]
theorem parts_none12 {m : List UInt8} {n : Nat} (hn : n < 12) (hd : dec1 n (gAt m n) = none) : partsE m 12 = none := by
  have := parts_none hd (12 - (n + 1))
  rwa [show n + 1 + (12 - (n + 1)) = 12 by omega] at this
/-! the code's own digits are read -/
theorem codeOf_len : ∀ k : UInt8, ∀ d < 10, (codeOf k d).length = 7 := by
  intro k d hd
  have h1 : ∀ d < 10, (leftC.getD d []).length = 7 := by decide
  unfold codeOf exB
  split
  · rw [List.length_map]; exact h1 d hd
  · split
    · rw [List.length_reverse, List.length_map]; exact h1 d hd
    · exact h1 d hd
theorem len7 {l : List UInt8} (h : l.length = 7) : ∃ a b c d e f g, l = [a, b, c, d, e, f, g] := by
  match l, h with
  | [a, b, c, d, e, f, g], _ => exact ⟨a, b, c, d, e, f, g, rfl⟩
/-- Twelve groups laid with the guards. -/
def laid12 (c1 c2 c3 c4 c5 c6 c7 c8 c9 c10 c11 c12 : List UInt8) : List UInt8 := endE ++ c1 ++ c2 ++ c3 ++ c4 ++ c5 ++ c6 ++ midE ++ c7 ++ c8 ++ c9 ++ c10 ++ c11 ++ c12 ++ endE
theorem eanOf_laid (ds : List UInt8) : eanOf ds = laid12 (codeOf (kindE ds 1) (digOf ds 1)) (codeOf (kindE ds 2) (digOf ds 2)) (codeOf (kindE ds 3) (digOf ds 3)) (codeOf (kindE ds 4) (digOf ds 4)) (codeOf (kindE ds 5) (digOf ds 5)) (codeOf (kindE ds 6) (digOf ds 6)) (codeOf (kindE ds 7) (digOf ds 7)) (codeOf (kindE ds 8) (digOf ds 8)) (codeOf (kindE ds 9) (digOf ds 9)) (codeOf (kindE ds 10) (digOf ds 10)) (codeOf (kindE ds 11) (digOf ds 11)) (codeOf (kindE ds 12) (digOf ds 12)) := by
  simp [eanOf, eanPart, laid12]
set_option maxRecDepth 100000 in
set_option maxHeartbeats 2000000 in
theorem laid12_head (c1 c2 c3 c4 c5 c6 c7 c8 c9 c10 c11 c12 : List UInt8) (h1 : c1.length = 7) (h2 : c2.length = 7) (h3 : c3.length = 7) (h4 : c4.length = 7) (h5 : c5.length = 7) (h6 : c6.length = 7) (h7 : c7.length = 7) (h8 : c8.length = 7) (h9 : c9.length = 7) (h10 : c10.length = 7) (h11 : c11.length = 7) (h12 : c12.length = 7) :
    (laid12 c1 c2 c3 c4 c5 c6 c7 c8 c9 c10 c11 c12).length = 95 ∧ (laid12 c1 c2 c3 c4 c5 c6 c7 c8 c9 c10 c11 c12).take 3 = endE ∧ ((laid12 c1 c2 c3 c4 c5 c6 c7 c8 c9 c10 c11 c12).drop 45).take 5 = midE ∧ (laid12 c1 c2 c3 c4 c5 c6 c7 c8 c9 c10 c11 c12).drop 92 = endE ∧
      gAt (laid12 c1 c2 c3 c4 c5 c6 c7 c8 c9 c10 c11 c12) 0 = c1 ∧ gAt (laid12 c1 c2 c3 c4 c5 c6 c7 c8 c9 c10 c11 c12) 1 = c2 ∧ gAt (laid12 c1 c2 c3 c4 c5 c6 c7 c8 c9 c10 c11 c12) 2 = c3 ∧ gAt (laid12 c1 c2 c3 c4 c5 c6 c7 c8 c9 c10 c11 c12) 3 = c4 ∧ gAt (laid12 c1 c2 c3 c4 c5 c6 c7 c8 c9 c10 c11 c12) 4 = c5 ∧ gAt (laid12 c1 c2 c3 c4 c5 c6 c7 c8 c9 c10 c11 c12) 5 = c6 ∧ gAt (laid12 c1 c2 c3 c4 c5 c6 c7 c8 c9 c10 c11 c12) 6 = c7 ∧ gAt (laid12 c1 c2 c3 c4 c5 c6 c7 c8 c9 c10 c11 c12) 7 = c8 ∧ gAt (laid12 c1 c2 c3 c4 c5 c6 c7 c8 c9 c10 c11 c12) 8 = c9 ∧ gAt (laid12 c1 c2 c3 c4 c5 c6 c7 c8 c9 c10 c11 c12) 9 = c10 ∧ gAt (laid12 c1 c2 c3 c4 c5 c6 c7 c8 c9 c10 c11 c12) 10 = c11 ∧ gAt (laid12 c1 c2 c3 c4 c5 c6 c7 c8 c9 c10 c11 c12) 11 = c12 ∧
      (laid12 c1 c2 c3 c4 c5 c6 c7 c8 c9 c10 c11 c12).reverse = laid12 c12.reverse c11.reverse c10.reverse c9.reverse c8.reverse c7.reverse c6.reverse c5.reverse c4.reverse c3.reverse c2.reverse c1.reverse := by
  obtain ⟨a1, a2, a3, a4, a5, a6, a7, rfl⟩ := len7 h1
  obtain ⟨b1, b2, b3, b4, b5, b6, b7, rfl⟩ := len7 h2
  obtain ⟨d1, d2, d3, d4, d5, d6, d7, rfl⟩ := len7 h3
  obtain ⟨e1, e2, e3, e4, e5, e6, e7, rfl⟩ := len7 h4
  obtain ⟨f1, f2, f3, f4, f5, f6, f7, rfl⟩ := len7 h5
  obtain ⟨g1, g2, g3, g4, g5, g6, g7, rfl⟩ := len7 h6
  obtain ⟨i1, i2, i3, i4, i5, i6, i7, rfl⟩ := len7 h7
  obtain ⟨j1, j2, j3, j4, j5, j6, j7, rfl⟩ := len7 h8
  obtain ⟨k1, k2, k3, k4, k5, k6, k7, rfl⟩ := len7 h9
  obtain ⟨l1, l2, l3, l4, l5, l6, l7, rfl⟩ := len7 h10
  obtain ⟨m1, m2, m3, m4, m5, m6, m7, rfl⟩ := len7 h11
  obtain ⟨n1, n2, n3, n4, n5, n6, n7, rfl⟩ := len7 h12
  refine ⟨?_, ?_, ?_, ?_, ?_, ?_, ?_, ?_, ?_, ?_, ?_, ?_, ?_, ?_, ?_, ?_, ?_⟩
  all_goals kernel_rfl

end Go.Proofs.YtkipcobpnecmhaaGreatDoor


/-! EAN codes in plain lists: what is drawn of digits is read as these digits, also backwards. -/
namespace Go.Proofs.YtkipcobpnecmhaaGreatDoor

theorem ean_head (ds : List UInt8) (hd : ∀ i, digOf ds i ≤ 9) : headOK (eanOf ds) = true ∧ (∀ i, i < 12 → gAt (eanOf ds) i = codeOf (kindE ds (i + 1)) (digOf ds (i + 1))) ∧ ∀ i, i < 12 → gAt (eanOf ds).reverse i = (codeOf (kindE ds (12 - i)) (digOf ds (12 - i))).reverse := by
  have L : ∀ i, (codeOf (kindE ds i) (digOf ds i)).length = 7 := fun i => codeOf_len _ _ (by have := hd i; omega)
  have R : ∀ i, ((codeOf (kindE ds i) (digOf ds i)).reverse).length = 7 := fun i => by rw [List.length_reverse]; exact L i
  obtain ⟨a, b, c, d, e1, e2, e3, e4, e5, e6, e7, e8, e9, e10, e11, e12, er⟩ := laid12_head _ _ _ _ _ _ _ _ _ _ _ _ (L 1) (L 2) (L 3) (L 4) (L 5) (L 6) (L 7) (L 8) (L 9) (L 10) (L 11) (L 12)
  obtain ⟨-, -, -, -, r1, r2, r3, r4, r5, r6, r7, r8, r9, r10, r11, r12, -⟩ := laid12_head _ _ _ _ _ _ _ _ _ _ _ _ (R 12) (R 11) (R 10) (R 9) (R 8) (R 7) (R 6) (R 5) (R 4) (R 3) (R 2) (R 1)
  rw [eanOf_laid]
  refine ⟨?_, ?_, ?_⟩
  · unfold headOK
    rw [decide_eq_true a, decide_eq_true b, decide_eq_true c, decide_eq_true d]
    rfl
  · intro i hi
    have : i = 0 ∨ i = 1 ∨ i = 2 ∨ i = 3 ∨ i = 4 ∨ i = 5 ∨ i = 6 ∨ i = 7 ∨ i = 8 ∨ i = 9 ∨ i = 10 ∨ i = 11 := by omega
    rcases this with rfl | rfl | rfl | rfl | rfl | rfl | rfl | rfl | rfl | rfl | rfl | rfl
    · exact e1
    · exact e2
    · exact e3
    · exact e4
    · exact e5
    · exact e6
    · exact e7
    · exact e8
    · exact e9
    · exact e10
    · exact e11
    · exact e12
  · intro i hi
    rw [er]
    have : i = 0 ∨ i = 1 ∨ i = 2 ∨ i = 3 ∨ i = 4 ∨ i = 5 ∨ i = 6 ∨ i = 7 ∨ i = 8 ∨ i = 9 ∨ i = 10 ∨ i = 11 := by omega
    rcases this with rfl | rfl | rfl | rfl | rfl | rfl | rfl | rfl | rfl | rfl | rfl | rfl
    · exact r1
    · exact r2
    · exact r3
    · exact r4
    · exact r5
    · exact r6
    · exact r7
    · exact r8
    · exact r9
    · exact r10
    · exact r11
    · exact r12
theorem kindE_low (ds : List UInt8) (hd : digOf ds 0 ≤ 9) (i : Nat) (hi : i < 6) : kindE ds (i + 1) = 76 ∨ kindE ds (i + 1) = 71 := by
  have h : ∀ d < 10, ∀ i < 6, (firstC.getD d []).getD i 0 = 76 ∨ (firstC.getD d []).getD i 0 = 71 := by decide +kernel
  unfold kindE
  rw [if_neg (by omega), Nat.add_sub_cancel]
  exact h _ (by omega) i hi
theorem kindE_high (ds : List UInt8) (i : Nat) (hi : 6 ≤ i) : kindE ds (i + 1) = 82 := by
  unfold kindE
  rw [if_pos (by omega)]
theorem ean_dec (ds : List UInt8) (hd : ∀ i, digOf ds i ≤ 9) (i : Nat) (hi : i < 12) : dec1 i (gAt (eanOf ds) i) = some (kindE ds (i + 1), [UInt8.ofNat (48 + digOf ds (i + 1))]) := by
  rw [(ean_head ds hd).2.1 i hi]
  have h9 := hd (i + 1)
  by_cases h6 : i < 6
  · rw [dec1_low _ _ h6]
    have h := dec_low (digOf ds (i + 1)) (by omega)
    rcases kindE_low ds (hd 0) i h6 with e | e
    · rw [e]; exact h.1
    · rw [e]; exact h.2
  · rw [dec1_high _ _ (by omega), kindE_high ds i (by omega)]
    exact dec_high _ (by omega)
theorem ean_parts (ds : List UInt8) (hd : ∀ i, digOf ds i ≤ 9) : ∀ n, n ≤ 12 → partsE (eanOf ds) n = some ((List.range n).map fun i => (kindE ds (i + 1), [UInt8.ofNat (48 + digOf ds (i + 1))]))
  | 0, _ => rfl
  | n + 1, hn => by
    rw [parts_some (ean_parts ds hd n (by omega)) (ean_dec ds hd n (by omega)), List.range_succ, List.map_append]
    rfl
set_option maxRecDepth 100000 in
theorem first_at : ∀ d < 10, firstAt [(firstC.getD d []).getD 0 0, (firstC.getD d []).getD 1 0, (firstC.getD d []).getD 2 0, (firstC.getD d []).getD 3 0, (firstC.getD d []).getD 4 0, (firstC.getD d []).getD 5 0] = some d := by decide +kernel
theorem made_digits {ds : List UInt8} (h : madeOf ds digits10 = true) : ds = (List.range ds.length).map fun i => UInt8.ofNat (48 + digOf ds i) := by
  apply List.ext_getElem?
  intro i
  rw [List.getElem?_map]
  by_cases hi : i < ds.length
  · rw [List.getElem?_range hi]
    have hg : ds[i]? = some ds[i] := List.getElem?_eq_getElem hi
    have hm := made_at h hg
    rw [hg]
    show some ds[i] = some (UInt8.ofNat (48 + digOf ds i))
    unfold digOf
    rw [List.getD_eq_getElem?_getD, hg]
    show some ds[i] = some (UInt8.ofNat (48 + (ds[i].toNat - 48)))
    rw [show 48 + (ds[i].toNat - 48) = ds[i].toNat by omega, UInt8.ofNat_toNat]
  · rw [List.getElem?_eq_none (by omega), List.getElem?_eq_none (by rw [List.length_range]; omega)]
    rfl
theorem digs_ean (ds : List UInt8) (h13 : ds.length = 13) (hm : madeOf ds digits10 = true) : digsE (eanOf ds) = some ds := by
  have hd := digOf_le hm
  unfold digsE
  rw [if_pos (ean_head ds hd).1, ean_parts ds hd 12 (Nat.le_refl _)]
  have hrow : (rowOf ((List.range 12).map fun i => (kindE ds (i + 1), [UInt8.ofNat (48 + digOf ds (i + 1))]))).take 6 = [(firstC.getD (digOf ds 0) []).getD 0 0, (firstC.getD (digOf ds 0) []).getD 1 0, (firstC.getD (digOf ds 0) []).getD 2 0, (firstC.getD (digOf ds 0) []).getD 3 0, (firstC.getD (digOf ds 0) []).getD 4 0, (firstC.getD (digOf ds 0) []).getD 5 0] := rfl
  show (firstAt ((rowOf ((List.range 12).map fun i => (kindE ds (i + 1), [UInt8.ofNat (48 + digOf ds (i + 1))]))).take 6)).map _ = _
  rw [hrow, first_at _ (by have := hd 0; omega)]
  show some (UInt8.ofNat (48 + digOf ds 0) :: _) = _
  have hds := made_digits hm
  rw [h13] at hds
  conv => rhs; rw [hds]
  rfl
/-- Read as the other way round: no code. -/
theorem digs_flip (ds : List UInt8) (hm : madeOf ds digits10 = true) : digsE (eanOf ds).reverse = none := by
  have hd := digOf_le hm
  unfold digsE
  by_cases hh : headOK (eanOf ds).reverse = true
  · rw [if_pos hh]
    cases hp : partsE (eanOf ds).reverse 12 with
    | none => rfl
    | some ps =>
      have hk : ∀ i, i < 6 → (rowOf ps)[i]? = some 71 := fun i hi => by
        have hl := parts_len hp
        have hg : ps[i]? = some ps[i] := List.getElem?_eq_getElem (by omega)
        have h := parts_at hp i _ hg
        rw [(ean_head ds hd).2.2 i (by omega), dec1_low _ _ hi] at h
        have hkE : kindE ds (12 - i) = 82 := by
          have := kindE_high ds (11 - i) (by omega)
          rwa [show 11 - i + 1 = 12 - i by omega] at this
        have hc : (codeOf 82 (digOf ds (12 - i))).reverse = codeOf 71 (digOf ds (12 - i)) := rfl
        rw [hkE, hc, (dec_low _ (by have := hd (12 - i); omega)).2] at h
        unfold rowOf
        rw [List.getElem?_map, hg, ← Option.some.inj h]
        rfl
      have hrow : (rowOf ps).take 6 = [71, 71, 71, 71, 71, 71] := by
        apply List.ext_getElem?
        intro i
        by_cases hi : i < 6
        · rw [List.getElem?_take_of_lt hi, hk i hi]
          have : i = 0 ∨ i = 1 ∨ i = 2 ∨ i = 3 ∨ i = 4 ∨ i = 5 := by omega
          rcases this with rfl | rfl | rfl | rfl | rfl | rfl <;> rfl
        · rw [List.getElem?_eq_none (by rw [List.length_take]; omega), List.getElem?_eq_none (by simp; omega)]
      show (firstAt ((rowOf ps).take 6)).map _ = none
      rw [hrow, show firstAt [71, 71, 71, 71, 71, 71] = none by decide]
      rfl
  · rw [if_neg hh]
theorem digOf_take (ds : List UInt8) (n i : Nat) (h : i < n) : digOf (ds.take n) i = digOf ds i := by
  unfold digOf
  rw [List.getD_eq_getElem?_getD, List.getD_eq_getElem?_getD, List.getElem?_take_of_lt h]
theorem checkSum_take (ds : List UInt8) (n : Nat) : ∀ k, k ≤ n → checkSum (ds.take n) k = checkSum ds k
  | 0, _ => rfl
  | k + 1, h => by
    show checkSum (ds.take n) k + digOf (ds.take n) k * _ = checkSum ds k + digOf ds k * _
    rw [checkSum_take ds n k (by omega), digOf_take ds n k (by omega)]
theorem ean_read (ds : List UInt8) (h13 : ds.length = 13) (hm : madeOf ds digits10 = true) (hc : checkOf (ds.take 12) = digOf ds 12) : eitherE (eanOf ds) = (ds, 0) ∧ eitherE (eanOf ds).reverse = (ds, 0) := by
  have h1 : readE (eanOf ds) = (ds, 0) := by
    unfold readE
    rw [digs_ean ds h13 hm]
    show (if checkOf (ds.take 12) = digOf ds 12 then (ds, (0 : Int)) else ([], 14)) = _
    rw [if_pos hc]
  have h2 : readE (eanOf ds).reverse = ([], 2) := by
    unfold readE
    rw [digs_flip ds hm]
  unfold eitherE
  rw [h1, h2, List.reverse_reverse, h1]
  exact ⟨rfl, rfl⟩
/-! a code that is read is of bits -/
theorem made_bits {l : List UInt8} (h : ∀ i, i < l.length → ∃ b, l[i]? = some b ∧ (b = 48 ∨ b = 49)) : madeOf l [48, 49] = true := by
  unfold madeOf
  rw [List.all_eq_true]
  intro b hb
  obtain ⟨i, hi, rfl⟩ := List.getElem_of_mem hb
  obtain ⟨b', h1, h2⟩ := h i hi
  rw [List.getElem?_eq_getElem hi] at h1
  rw [Option.some.inj h1]
  rcases h2 with rfl | rfl <;> rfl
theorem codeOf_bits : ∀ d < 10, ∀ i < 7, (∃ b, (codeOf 76 d)[i]? = some b ∧ (b = 48 ∨ b = 49)) ∧ (∃ b, (codeOf 71 d)[i]? = some b ∧ (b = 48 ∨ b = 49)) ∧ (∃ b, (codeOf 82 d)[i]? = some b ∧ (b = 48 ∨ b = 49)) := by
  have h : ∀ d < 10, ∀ i < 7, ((codeOf 76 d)[i]? = some 48 ∨ (codeOf 76 d)[i]? = some 49) ∧ ((codeOf 71 d)[i]? = some 48 ∨ (codeOf 71 d)[i]? = some 49) ∧ ((codeOf 82 d)[i]? = some 48 ∨ (codeOf 82 d)[i]? = some 49) := by decide +kernel
  intro d hd i hi
  obtain ⟨h1, h2, h3⟩ := h d hd i hi
  exact ⟨by rcases h1 with h | h; exact ⟨_, h, Or.inl rfl⟩; exact ⟨_, h, Or.inr rfl⟩, by rcases h2 with h | h; exact ⟨_, h, Or.inl rfl⟩; exact ⟨_, h, Or.inr rfl⟩, by rcases h3 with h | h; exact ⟨_, h, Or.inl rfl⟩; exact ⟨_, h, Or.inr rfl⟩⟩
theorem parts_made {m : List UInt8} {ps : List (UInt8 × List UInt8)} (hh : headOK m = true) (hp : partsE m 12 = some ps) : madeOf m [48, 49] = true := by
  unfold headOK at hh
  simp only [Bool.and_eq_true, decide_eq_true_eq] at hh
  obtain ⟨hl, h3, h5, h9⟩ := hh
  apply made_bits
  intro j hj
  have grp : ∀ i, i < 12 → ∀ o, o < 7 → ∃ b, m[gFrom i + o]? = some b ∧ (b = 48 ∨ b = 49) := fun i hi o ho => by
    have hlen := parts_len hp
    obtain ⟨⟨k, n⟩, hg⟩ : ∃ p, ps[i]? = some p := ⟨_, List.getElem?_eq_getElem (by omega)⟩
    have hd := parts_at hp i _ hg
    obtain ⟨d, hd10, hc, -, hk1, hk2⟩ := dec_mem hd
    have hb := codeOf_bits d hd10 o ho
    have hgo : (gAt m i)[o]? = m[gFrom i + o]? := by
      unfold gAt
      rw [List.getElem?_take_of_lt ho, List.getElem?_drop]
    rw [← hgo, hc]
    by_cases h6 : 6 ≤ i
    · rw [hk1 h6]; exact hb.2.2
    · rcases hk2 (by omega) with rfl | rfl
      · exact hb.1
      · exact hb.2.1
  by_cases c1 : j < 3
  · have : m[j]? = endE[j]? := by rw [← h3, List.getElem?_take_of_lt c1]
    rw [this]
    have : j = 0 ∨ j = 1 ∨ j = 2 := by omega
    rcases this with rfl | rfl | rfl
    · exact ⟨49, rfl, Or.inr rfl⟩
    · exact ⟨48, rfl, Or.inl rfl⟩
    · exact ⟨49, rfl, Or.inr rfl⟩
  · by_cases c2 : j < 45
    · have h := grp ((j - 3) / 7) (by omega) ((j - 3) % 7) (by omega)
      have e : gFrom ((j - 3) / 7) + (j - 3) % 7 = j := by unfold gFrom; rw [if_neg (by omega)]; omega
      rwa [e] at h
    · by_cases c3 : j < 50
      · have : m[j]? = midE[j - 45]? := by rw [← h5, List.getElem?_take_of_lt (by omega), List.getElem?_drop, show 45 + (j - 45) = j by omega]
        rw [this]
        have : j = 45 ∨ j = 46 ∨ j = 47 ∨ j = 48 ∨ j = 49 := by omega
        rcases this with rfl | rfl | rfl | rfl | rfl
        · exact ⟨48, rfl, Or.inl rfl⟩
        · exact ⟨49, rfl, Or.inr rfl⟩
        · exact ⟨48, rfl, Or.inl rfl⟩
        · exact ⟨49, rfl, Or.inr rfl⟩
        · exact ⟨48, rfl, Or.inl rfl⟩
      · by_cases c4 : j < 92
        · have h := grp ((j - 8) / 7) (by omega) ((j - 8) % 7) (by omega)
          have e : gFrom ((j - 8) / 7) + (j - 8) % 7 = j := by unfold gFrom; rw [if_pos (by omega)]; omega
          rwa [e] at h
        · have : m[j]? = endE[j - 92]? := by rw [← h9, List.getElem?_drop, show 92 + (j - 92) = j by omega]
          rw [this]
          have : j = 92 ∨ j = 93 ∨ j = 94 := by omega
          rcases this with rfl | rfl | rfl
          · exact ⟨49, rfl, Or.inr rfl⟩
          · exact ⟨48, rfl, Or.inl rfl⟩
          · exact ⟨49, rfl, Or.inr rfl⟩
theorem digs_made {m : List UInt8} (h : madeOf m [48, 49] = false) : digsE m = none := by
  unfold digsE
  by_cases hh : headOK m = true
  · rw [if_pos hh]
    cases hp : partsE m 12 with
    | none => rfl
    | some ps =>
      have := parts_made hh hp
      rw [h] at this
      cases this
  · rw [if_neg hh]
/-- The digits that are read. -/
theorem digs_digits {m ds : List UInt8} (h : digsE m = some ds) : ds.length = 13 ∧ madeOf ds digits10 = true := by
  unfold digsE at h
  by_cases hh : headOK m = true
  · rw [if_pos hh] at h
    cases hp : partsE m 12 with
    | none => rw [hp] at h; cases h
    | some ps =>
      rw [hp] at h
      obtain ⟨f, hf, rfl⟩ := Option.map_eq_some_iff.1 h
      have hf10 : f < 10 := by
        unfold firstAt at hf
        exact (List.findIdx?_eq_some_iff_findIdx_eq.1 hf).1
      have hl := parts_len hp
      have all1 : ∀ p ∈ ps, ∃ d, d < 10 ∧ p.2 = [UInt8.ofNat (48 + d)] := fun p hpm => by
        obtain ⟨i, hi, rfl⟩ := List.getElem_of_mem hpm
        have hd := parts_at hp i _ (List.getElem?_eq_getElem hi)
        obtain ⟨d, hd10, -, hn, -, -⟩ := dec_mem (k := ps[i].1) (n := ps[i].2) hd
        exact ⟨d, hd10, hn⟩
      have key : ∀ qs : List (UInt8 × List UInt8), (∀ p ∈ qs, ∃ d, d < 10 ∧ p.2 = [UInt8.ofNat (48 + d)]) → (outOf qs).length = qs.length ∧ ∀ b ∈ outOf qs, b ∈ digits10 := by
        intro qs
        induction qs with
        | nil => intro _; exact ⟨rfl, fun b hb => by simp [outOf] at hb⟩
        | cons q qs ih =>
          intro hq
          obtain ⟨d, hd10, hn⟩ := hq q (List.mem_cons_self ..)
          obtain ⟨i1, i2⟩ := ih fun p hp => hq p (List.mem_cons_of_mem _ hp)
          have e : outOf (q :: qs) = UInt8.ofNat (48 + d) :: outOf qs := by
            unfold outOf
            rw [List.flatMap_cons, hn]
            rfl
          rw [e]
          refine ⟨by rw [List.length_cons, List.length_cons, i1], fun b hb => ?_⟩
          rcases List.mem_cons.1 hb with rfl | hb
          · have : ∀ d < 10, UInt8.ofNat (48 + d) ∈ digits10 := by decide
            exact this d hd10
          · exact i2 b hb
      obtain ⟨k1, k2⟩ := key ps all1
      refine ⟨by rw [List.length_cons, k1, hl], ?_⟩
      unfold madeOf
      rw [List.all_eq_true]
      intro b hb
      rcases List.mem_cons.1 hb with rfl | hb
      · have : ∀ d < 10, (digits10.contains (UInt8.ofNat (48 + d))) = true := by decide
        exact this f hf10
      · simpa using k2 b hb
  · rw [if_neg hh] at h
    cases h

end Go.Proofs.YtkipcobpnecmhaaGreatDoor


/-! bar.Draw. -/
namespace Go.Proofs.YtkipcobpnecmhaaGreatDoor
open Go.RowKit Go.Shelf

def bits01 : List UInt8 := [48, 49]
theorem bits01_ascii : ∀ (j : Nat) b, bits01[j]? = some b → b.toNat < 128 := by
  intro j b h
  have hm := List.mem_of_getElem? h
  have : ∀ b ∈ bits01, b.toNat < 128 := by decide
  exact this b hm
def drawRange (u h q : Int) : Bool := inB u 1 8 && inB h 1 4000 && inB q 0 200
def drawErr (m : List UInt8) (u h q : Int) : Int := if m = [] then 9 else if madeOf m bits01 = false then 2 else if drawRange u h q = false then 3 else sizeErr (2 * q + u * m.length) h
/-- A module's ink. -/
def drawF (m : List UInt8) (u q x _y : Nat) : Bool := decide (q ≤ x ∧ x - q < m.length * u) && ((m.getD ((x - q) / u) 0).toNat == 49)
def drawTo (m : List UInt8) (u q W i k : Nat) : Bool := decide (k < i) && drawF m u q (k % W) (k / W)
theorem drawTo_no {m : List UInt8} {u q W i : Nat} (h : drawF m u q (i % W) (i / W) = false) (k : Nat) : drawTo m u q W (i + 1) k = drawTo m u q W i k := by
  unfold drawTo
  by_cases e : k = i
  · rw [e, h]; simp
  · congr 1
    rw [decide_eq_decide]
    omega
theorem drawTo_set {m : List UInt8} {u q W i : Nat} (k : Nat) : drawTo m u q W (i + 1) k = if k = i then drawF m u q (i % W) (i / W) else drawTo m u q W i k := by
  unfold drawTo
  by_cases e : k = i
  · rw [if_pos e, e, decide_eq_true (Nat.lt_succ_self i)]; rfl
  · rw [if_neg e]
    congr 1
    rw [decide_eq_decide]
    omega
theorem draw_size {n : Nat} {u q h : Int} (hu : 1 ≤ u) (hu8 : u ≤ 8) (hq : 0 ≤ q) : sizeErr (min (n : Int) 4001 * u + 2 * q) h = sizeErr (2 * q + u * n) h := by
  by_cases hn : (n : Int) ≤ 4001
  · rw [show min (n : Int) 4001 = (n : Int) by omega, Int.mul_comm (n : Int) u, Int.add_comm]
  · rw [show min (n : Int) 4001 = 4001 by omega]
    have h1 : u * 4001 ≤ u * (n : Int) := Int.mul_le_mul_of_nonneg_left (by omega) (by omega)
    have h2 : ¬ (4001 * u + 2 * q ≤ 4000) := by omega
    have h3 : ¬ (2 * q + u * (n : Int) ≤ 4000) := by omega
    unfold sizeErr
    rw [if_neg (fun h => h2 h.2.1), if_neg (fun h => h3 h.2.1)]
def DrawRes (m : List UInt8) (u h q : Int) (w : World) (e : Ending) (w' : World) : Prop := ∃ a b R n d err, e = .returned (.tuple #[.agg #[.int .i64 a, .int .i64 b, .slice R n d], .int .i64 err]) ∧ err = drawErr m u h q ∧
    Res w.heap.size w' err (2 * q + u * m.length).toNat h.toNat ((grid (2 * q + u * m.length).toNat h.toNat (drawF m u.toNat q.toNat)).map .bool) a b R n d ∧ Bl w w'
theorem draw_bad {m : List UInt8} {u h q : Int} {w w' : World} {err : Int} (he : drawErr m u h q = err) (hz : err ≠ 0) (hb : Bl w w') : DrawRes m u h q w (.returned (.tuple #[.agg #[.int .i64 0, .int .i64 0, .slice none 0 0], .int .i64 err])) w' :=
  ⟨0, 0, none, 0, 0, err, rfl, he.symm, Res.zero _ _ _ _ _ hz, hb⟩

set_option maxRecDepth 100000 in
set_option maxHeartbeats 8000000 in
theorem draw_any (m : List UInt8) (u h q : Int) (w : World) (hm : m.length ≤ 1048576) :
    Calls Tryz.prog 8 #[.string ⟨m.toArray⟩, .int .i64 u, .int .i64 h, .int .i64 q] w (DrawRes m u h q w) := by
  let w2 := (w).alloc (.cells #[.int .i64 0, .int .i64 0, .slice none 0 0] 28)
  have w2b : Bl w w2 := (Bl.refl w).alloc _
  have w21 : Blk w2 (w.heap.size) 28 #[.int .i64 0, .int .i64 0, .slice none 0 0] := by
    have h0 := Blk.new (w) 28 #[.int .i64 0, .int .i64 0, .slice none 0 0]
    exact h0
  have lw2 : w2.heap.size = w.heap.size + 1 := by simp [w2]
  have hsz : (⟨m.toArray⟩ : ByteArray).size = m.length := Lib.size_mk m
  have Ht := Lib.hid (trim_any m bits01 w2 (by omega) (by decide) bits01_ascii)
  go_enter Tryz.func8, Tryz.ntmps8
  by_cases hnil : m = []
  · have HE := Lib.hid (show drawErr m u h q = 9 by unfold drawErr; rw [if_pos hnil])
    have hemp : m.isEmpty = true := by rw [hnil]; rfl
    have kz := w21.all3
    clear hnil
    go_wp2_with fail
    try simp only [Exit.inBlock, Exit.then]
    refine bodyPost_ret (v := .tuple #[.agg #[.int .i64 0, .int .i64 0, .slice none 0 0], .int .i64 9]) (by simp [results, Tryz.results8, go_sem]) rfl (draw_bad HE.out (by decide) ?_)
    exact w2b
  · have hemp : m.isEmpty = false := by cases m with | nil => exact absurd rfl hnil | cons a t => rfl
    have HNil := Lib.hid hnil
    clear hnil
    go_wp2_with fail
    refine Ht.out.mono ?_
    rintro e w3 ⟨rfl, hb3'⟩
    have hb3 : Bl w2 w3 := hb3'
    clear hb3'
    clear_value w2
    cases hmd : madeOf m bits01 with
    | false =>
      have HE := Lib.hid (show drawErr m u h q = 2 by unfold drawErr; rw [if_neg HNil.out, if_pos hmd])
      have htr : (Lib.trimS m bits01).isEmpty = false := by rw [trim_made, hmd]
      have kz := (w21.bl hb3).all3
      clear hmd
      go_wp2_with fail
      try simp only [Exit.inBlock, Exit.then]
      refine bodyPost_ret (v := .tuple #[.agg #[.int .i64 0, .int .i64 0, .slice none 0 0], .int .i64 2]) (by simp [results, Tryz.results8, go_sem, kz]) rfl (draw_bad HE.out (by decide) ?_)
      exact (((w2b.trans hb3).setCell (by simp) _).setCell (by simp) _).setCell (by simp) _
    | true =>
      have htr : (Lib.trimS m bits01).isEmpty = true := by rw [trim_made, hmd]
      have HMd := Lib.hid hmd
      clear hmd
      go_upto_region 5 with fail
      go_cut [23] from 24 to 45 (fun s23 wc => s23 = .bool (!drawRange u h q) ∧ wc = w3)
      case first =>
        have hr : drawRange u h q = decide (1 ≤ u ∧ u ≤ 8 ∧ 1 ≤ h ∧ h ≤ 4000 ∧ 0 ≤ q ∧ q ≤ 200) := by
          unfold drawRange
          rw [Bool.eq_iff_iff, Bool.and_eq_true, Bool.and_eq_true, inB_true, inB_true, inB_true, decide_eq_true_eq]
          constructor <;> (intro h; omega)
        have HRg := Lib.hid hr
        clear hr
        by_cases d1 : u < 1
        · have HV := Lib.hid (show (!drawRange u h q) = true by rw [HRg.out, decide_eq_false (by omega)]; rfl)
          go_wp2_with fail
          go_meet
          case rel => exact ⟨by rw [HV.out], rfl⟩
        · by_cases d2 : 8 < u
          · have HV := Lib.hid (show (!drawRange u h q) = true by rw [HRg.out, decide_eq_false (by omega)]; rfl)
            go_wp2_with fail
            go_meet
            case rel => exact ⟨by rw [HV.out], rfl⟩
          · by_cases d3 : h < 1
            · have HV := Lib.hid (show (!drawRange u h q) = true by rw [HRg.out, decide_eq_false (by omega)]; rfl)
              go_wp2_with fail
              go_meet
              case rel => exact ⟨by rw [HV.out], rfl⟩
            · by_cases d4 : 4000 < h
              · have HV := Lib.hid (show (!drawRange u h q) = true by rw [HRg.out, decide_eq_false (by omega)]; rfl)
                go_wp2_with fail
                go_meet
                case rel => exact ⟨by rw [HV.out], rfl⟩
              · by_cases d5 : q < 0
                · have HV := Lib.hid (show (!drawRange u h q) = true by rw [HRg.out, decide_eq_false (by omega)]; rfl)
                  go_wp2_with fail
                  go_meet
                  case rel => exact ⟨by rw [HV.out], rfl⟩
                · have HV := Lib.hid (show (!drawRange u h q) = decide (200 < q) by
                    rw [HRg.out, Bool.eq_iff_iff]
                    simp
                    omega)
                  go_wp2_with fail
                  go_meet
                  case rel => exact ⟨by rw [HV.out], rfl⟩
      case rest =>
        obtain ⟨rfl, rfl⟩ := hcut
        rename World => w3
        cases hrg : drawRange u h q with
        | false =>
          have HE := Lib.hid (show drawErr m u h q = 3 by unfold drawErr; rw [if_neg HNil.out, if_neg (by rw [HMd.out]; decide), if_pos hrg])
          have kz := (w21.bl hb3).all3
          clear hrg
          go_wp2_with fail
          try simp only [Exit.inBlock, Exit.then]
          refine bodyPost_ret (v := .tuple #[.agg #[.int .i64 0, .int .i64 0, .slice none 0 0], .int .i64 3]) (by simp [results, Tryz.results8, go_sem, kz]) rfl (draw_bad HE.out (by decide) ?_)
          exact (((w2b.trans hb3).setCell (by simp) _).setCell (by simp) _).setCell (by simp) _
        | true =>
          have hr2 := hrg
          unfold drawRange at hr2
          simp only [Bool.and_eq_true] at hr2
          have g1 := inB_true.1 hr2.1.1
          have g2 := inB_true.1 hr2.1.2
          have g3 := inB_true.1 hr2.2
          obtain ⟨U, hU⟩ : ∃ n : Nat, u = (n : Int) := ⟨u.toNat, by omega⟩
          obtain ⟨H, hH⟩ : ∃ n : Nat, h = (n : Int) := ⟨h.toNat, by omega⟩
          obtain ⟨Q, hQ⟩ : ∃ n : Nat, q = (n : Int) := ⟨q.toNat, by omega⟩
          subst hU hH hQ
          have HE := Lib.hid (show drawErr m U H Q = sizeErr (min (m.length : Int) 4001 * (U : Int) + 2 * (Q : Int)) (H : Int) by unfold drawErr; rw [if_neg HNil.out, if_neg (by rw [HMd.out]; decide), if_neg (by rw [hrg]; decide), draw_size g1.1 g1.2 g3.1])
          obtain ⟨N, hN⟩ : ∃ N, N = min m.length 4001 := ⟨_, rfl⟩
          have hNI : min (m.length : Int) 4001 = (N : Int) := by omega
          obtain ⟨M1, hM1⟩ : ∃ M, M = N * U := ⟨_, rfl⟩
          have hc1 : (N : Int) * (U : Int) = (M1 : Int) := by rw [hM1, Int.natCast_mul]
          have hm1 : M1 ≤ 4001 * 8 := by rw [hM1]; exact Nat.mul_le_mul (by omega) (by omega)
          obtain ⟨V, hV⟩ : ∃ V, V = M1 + 2 * Q := ⟨_, rfl⟩
          have hVI : (M1 : Int) + 2 * (Q : Int) = (V : Int) := by omega
          rw [hNI, hc1, hVI] at HE
          have HVI := Lib.hid hVI
          clear hrg hr2 hVI
          by_cases hse : sizeErr (V : Int) (H : Int) = 0
          case neg =>
            have hq2 : (sizeErr (V : Int) (H : Int) != 0) = true := by simp [hse]
            have Hb := Lib.hid (blank_bad (V : Int) (H : Int) w3 hse)
            have HZ := Lib.hid hse
            clear hse hN hM1 hV
            go_wp2_with fail
            rw [HVI.out]
            refine Hb.out.mono ?_
            rintro e w6 ⟨rfl, hb6⟩
            go_upto_region 8 with fail
            obtain ⟨w7, hw7⟩ : ∃ x, x = w6.alloc (.cells #[.int .i64 0, .int .i64 0, .slice none 0 0] 28) := ⟨_, rfl⟩
            have hb67 : Bl w6 w7 := by rw [hw7]; exact (Bl.refl _).alloc _
            rw [← hw7]
            clear hw7
            have hb7 := hb3.trans (hb6.trans hb67)
            have kz := (w21.bl hb7).all3
            go_wp2_with fail
            refine bodyPost_ret (v := .tuple #[.agg #[.int .i64 0, .int .i64 0, .slice none 0 0], .int .i64 (sizeErr (V : Int) (H : Int))]) (by simp [results, Tryz.results8, go_sem, kz]) rfl (draw_bad HE.out HZ.out ?_)
            exact (((w2b.trans hb7).setCell (by simp) _).setCell (by simp) _).setCell (by simp) _
          case pos =>
            have hz1 := sizeErr_zero hse
            have hml : m.length ≤ 4000 := by
              rcases Nat.lt_or_ge 4000 m.length with h | h
              · have : 4001 * 1 ≤ N * U := Nat.mul_le_mul (by omega) (by omega)
                omega
              · exact h
            have hNm : N = m.length := by omega
            subst hNm
            have hWr : 2 * (Q : Int) + (U : Int) * (m.length : Int) = (V : Int) := by
              have : (U : Int) * (m.length : Int) = (M1 : Int) := by rw [Int.mul_comm]; exact hc1
              omega
            have HWr := Lib.hid hWr
            have hVH : V * H ≤ 1048576 := by
              have h2 : ((V * H : Nat) : Int) = (V : Int) * (H : Int) := by simp
              omega
            have hV4 : 1 ≤ V ∧ V ≤ 4000 := by omega
            have hH4 : 1 ≤ H ∧ H ≤ 4000 := by omega
            have hU1 : 1 ≤ U ∧ U ≤ 8 := by omega
            have hQ1 : Q ≤ 200 := by omega
            have Hb := Lib.hid (blank_new V H w3 hse)
            have HZ := Lib.hid hse; have HM1 := Lib.hid hM1; have HV := Lib.hid hV
            clear hse hN hM1 hV hz1 hWr g1 g2 g3
            go_wp2_with fail
            rw [HVI.out]
            refine Hb.out.mono ?_
            rintro e w6 ⟨g, rfl, hg3, hbg, hb6⟩
            go_upto_region 8 with fail
            obtain ⟨w7, hw7⟩ : ∃ x, x = w6.alloc (.cells #[.int .i64 V, .int .i64 H, .slice (some ⟨g, 0, none⟩) (V * H) (V * H)] 28) := ⟨_, rfl⟩
            obtain ⟨p, hp⟩ : ∃ x, x = w6.heap.size := ⟨_, rfl⟩
            have bp7 : Blk w7 p 28 #[.int .i64 V, .int .i64 H, .slice (some ⟨g, 0, none⟩) (V * H) (V * H)] := by rw [hw7, hp]; exact Blk.new _ _ _
            have hb67 : Bl w6 w7 := by rw [hw7]; exact (Bl.refl _).alloc _
            have hpg : p ≠ g := by have := hbg.lt; omega
            have hp3 : w3.heap.size ≤ p := by have := hb6.le; omega
            have hle3 := hb3.le
            rw [← hw7, ← hp]
            clear hw7 hp
            have hb37 := hb6.trans hb67
            have bg7 : Blk w7 g 4 (tabB (V * H) (drawTo m U Q V 0)) := by
              have h := hbg.bl hb67
              have e : tabB (V * H) (fun _ => false) = tabB (V * H) (drawTo m U Q V 0) := tabB_congr fun k _ => by unfold drawTo; simp
              rw [e] at h
              exact h
            have HG := Lib.hid bg7; have HBp := Lib.hid bp7
            have k7 := bp7.all3
            clear hbg bg7 bp7 Hb
            go_wp2_with fail
            go_loopw [67] (fun v wr => ∃ i : Nat, i ≤ V * H ∧ v = .int .i64 i ∧ Bl w3 wr ∧ Blk wr p 28 #[.int .i64 V, .int .i64 H, .slice (some ⟨g, 0, none⟩) (V * H) (V * H)] ∧ Hid (Blk wr g 4 (tabB (V * H) (drawTo m U Q V i)))) (fun v _ => V * H - (RowKit.intOf v).toNat)
            case atStart => exact ⟨0, Nat.zero_le _, rfl, hb37, HBp.out, HG⟩
            case round =>
              clear k7
              obtain ⟨i, hi, rfl, hbr, hbp, hbg⟩ := hrel
              have k7 := hbp.all3
              by_cases hlt : i < V * H
              · have hmod : i % V < V := Nat.mod_lt _ (by omega)
                obtain ⟨xi, hxi⟩ : ∃ x, x = i % V := ⟨_, rfl⟩
                have e1 : (i : Int) % (V : Int) = (xi : Int) := by rw [hxi]; simp
                rw [← hxi] at hmod
                have hdF : drawF m U Q (i % V) (i / V) = (decide (Q ≤ xi ∧ xi - Q < m.length * U) && ((m.getD ((xi - Q) / U) 0).toNat == 49)) := by rw [hxi]; rfl
                have HDF := Lib.hid hdF; have HBr := Lib.hid hbr; have HBp := Lib.hid hbp; have hV0 : ¬ (V = 0) := by omega
                have hlenU : (m.length : Int) * (U : Int) = (M1 : Int) := hc1
                have hM2 := HM1.out
                clear hxi hdF hbr hbp
                by_cases hin : Q ≤ xi
                · obtain ⟨z, hz⟩ : ∃ z, z = xi - Q := ⟨_, rfl⟩
                  have hzI : (xi : Int) - (Q : Int) = (z : Int) := by omega
                  by_cases hin2 : z < M1
                  · have hidx : z / U < m.length := Nat.div_lt_of_lt_mul (by rw [Nat.mul_comm]; omega)
                    obtain ⟨ix, hix⟩ : ∃ n, n = z / U := ⟨_, rfl⟩
                    have e2 : (z : Int) / (U : Int) = (ix : Int) := by rw [hix]; simp
                    rw [← hix] at hidx
                    obtain ⟨b, hb⟩ : ∃ b, m[ix]? = some b := ⟨_, List.getElem?_eq_getElem hidx⟩
                    obtain ⟨h1, h2⟩ := bytes_at hb
                    have HVl := Lib.hid (show drawF m U Q (i % V) (i / V) = ((b.toNat : Int) == 49) by
                      rw [HDF.out, ← hz, decide_eq_true ⟨hin, by rw [← hM2]; exact hin2⟩, ← hix, List.getD_eq_getElem?_getD, hb]
                      rw [Bool.true_and, Bool.eq_iff_iff, beq_iff_eq, beq_iff_eq]
                      show b.toNat = 49 ↔ _
                      omega)
                    have hcell : wr.cell? ⟨g, i, none⟩ = some (.bool (drawTo m U Q V i i)) := hbg.out.tabAtB hlt
                    have hfz := hbg.out.frozen
                    have hU0 : ¬ (U = 0) := by omega
                    clear hix hb hz hM2
                    go_upto_region 15 with fail
                    refine wp_region_flow [(true, 0), (true, 1), (true, 2), (true, 3), (true, 4), (true, 5), (true, 6), (true, 7), (true, 8), (true, 9), (false, 10)] (fun i => i == 10) (by kernel_rfl) (by kernel_rfl) (by kernel_rfl) (by kernel_rfl) ?_
                    iterate 1
                      apply Flow.calm2 _ _ rfl rfl
                      · intro w' hb' K' hK'
                        obtain ⟨hc', hf'⟩ := hb'.rule
                        go_simp
                        try go_ints
                        exact hK'
                      · intro K' hK'
                        simp only [Act.put, List.setIfInBounds_toArray, List.set_cons_zero, List.set_cons_succ]
                        exact hK'
                    iterate 1
                      apply Flow.calm2 _ _ rfl rfl
                      · intro w' hb' K' hK'
                        obtain ⟨hc', hf'⟩ := hb'.rule
                        go_simp
                        try go_ints
                        exact hK'
                      · intro K' hK'
                        simp only [Act.put, List.setIfInBounds_toArray, List.set_cons_zero, List.set_cons_succ]
                        exact hK'
                    iterate 4
                      apply Flow.mv _ rfl
                      · intro K' hK'
                        simp only [Act.put, Act.eval, List.setIfInBounds_toArray, List.set_cons_zero, List.set_cons_succ, arr_getD, List.getD_cons_zero, List.getD_cons_succ]
                        exact hK'
                    iterate 1
                      apply Flow.calm2 _ _ rfl rfl
                      · intro w' hb' K' hK'
                        obtain ⟨hc', hf'⟩ := hb'.rule
                        go_simp
                        try go_ints
                        exact hK'
                      · intro K' hK'
                        simp only [Act.put, List.setIfInBounds_toArray, List.set_cons_zero, List.set_cons_succ]
                        exact hK'
                    iterate 1
                      apply Flow.calm2 _ _ rfl rfl
                      · intro w' hb' K' hK'
                        obtain ⟨hc', hf'⟩ := hb'.rule
                        go_simp
                        try go_ints
                        exact hK'
                      · intro K' hK'
                        simp only [Act.put, List.setIfInBounds_toArray, List.set_cons_zero, List.set_cons_succ]
                        exact hK'
                    iterate 1
                      apply Flow.calm2 _ _ rfl rfl
                      · intro w' hb' K' hK'
                        obtain ⟨hc', hf'⟩ := hb'.rule
                        go_simp
                        try go_ints
                        exact hK'
                      · intro K' hK'
                        simp only [Act.put, List.setIfInBounds_toArray, List.set_cons_zero, List.set_cons_succ]
                        exact hK'
                    iterate 1
                      apply Flow.calm2 _ _ rfl rfl
                      · intro w' hb' K' hK'
                        obtain ⟨hc', hf'⟩ := hb'.rule
                        go_simp
                        try go_ints
                        exact hK'
                      · intro K' hK'
                        simp only [Act.put, List.setIfInBounds_toArray, List.set_cons_zero, List.set_cons_succ]
                        exact hK'
                    refine Flow.tail _ rfl ?_
                    have hg3' : w3.heap.size ≤ (⟨g, i, none⟩ : Addr).block := hg3
                    go_wp2_with fail
                    exact ⟨⟨i + 1, hlt, by go_num, (HBr.out.drew).setCell hg3' _, (HBp.out.drew).far (by show p ≠ g; exact hpg) _, Lib.hid (hbg.out.drew.tabSetB _ _ (fun j _ => by rw [drawTo_set, HVl.out]))⟩, by simp [RowKit.intOf] <;> omega⟩
                  · have HNo := Lib.hid (show drawF m U Q (i % V) (i / V) = false by
                      rw [HDF.out, ← hz, decide_eq_false (by rw [← hM2]; omega)]
                      rfl)
                    have HG2 := Lib.hid (show Blk wr g 4 (tabB (V * H) (drawTo m U Q V (i + 1))) by
                      rw [tabB_congr fun k _ => drawTo_no HNo.out k]
                      exact hbg.out)
                    have hn2 : ¬ ((z : Int) < (M1 : Int)) := by omega
                    clear hz hM2 hbg
                    go_wp2_with fail
                    exact ⟨⟨i + 1, hlt, by go_num, HBr.out, HBp.out, HG2⟩, by simp [RowKit.intOf] <;> omega⟩
                · have hneg : (xi : Int) - (Q : Int) < 0 := by omega
                  have HNo := Lib.hid (show drawF m U Q (i % V) (i / V) = false by
                    rw [HDF.out, decide_eq_false (fun h => hin h.1)]
                    rfl)
                  have HG2 := Lib.hid (show Blk wr g 4 (tabB (V * H) (drawTo m U Q V (i + 1))) by
                    rw [tabB_congr fun k _ => drawTo_no HNo.out k]
                    exact hbg.out)
                  clear hM2 hbg
                  go_wp2_with fail
                  exact ⟨⟨i + 1, hlt, by go_num, HBr.out, HBp.out, HG2⟩, by simp [RowKit.intOf] <;> omega⟩
              · obtain rfl : i = V * H := by omega
                have kz := (w21.bl (hb3.trans hbr)).all3
                have hpz : ¬ (p = w.heap.size) := by omega
                have HBg := hbg
                clear hbg
                go_wp2_with fail
                refine bodyPost_ret (v := .tuple #[.agg #[.int .i64 V, .int .i64 H, .slice (some ⟨g, 0, none⟩) (V * H) (V * H)], .int .i64 0]) (by simp [results, Tryz.results8, go_sem, kz]) rfl ⟨_, _, _, _, _, _, rfl, by rw [HE.out, HZ.out], ?_, ?_⟩
                · rw [HWr.out]
                  simp only [Int.toNat_natCast]
                  have h := HBg.out.tabReadsB
                  have e : (List.range (V * H)).map (drawTo m U Q V (V * H)) = grid V H (drawF m U Q) := by
                    unfold grid
                    refine List.map_congr_left fun k hk => ?_
                    unfold drawTo
                    rw [decide_eq_true (List.mem_range.1 hk)]
                    rfl
                  rw [e] at h
                  have hn : ∀ ad, some (⟨g, 0, none⟩ : Addr) = some ad → w.heap.size + 1 ≤ ad.block := fun ad h => by injection h with h; subst h; show w.heap.size + 1 ≤ g; omega
                  exact Res.page rfl (((h.store hn (by simp) _).store hn (by simp) _).store hn (by simp) _) (fun ad h => by have := hn ad h; omega)
                · exact (((w2b.trans (hb3.trans hbr)).setCell (by simp) _).setCell (by simp) _).setCell (by simp) _

end Go.Proofs.YtkipcobpnecmhaaGreatDoor
