/- bar.lengths: the runs of modules. -/
import Derived.Test.YtkipcobpnecmhaaGreatDoorMClaimTopCodes0
import Derived.Test.YtkipcobpnecmhaaGreatDoorMClaimTopCodes29
import Derived.Test.YtkipcobpnecmhaaGreatDoorMClaimTopCodes25
import Derived.Test.YtkipcobpnecmhaaGreatDoorMClaimTopCodes19
import Derived.Test.YtkipcobpnecmhaaGreatDoorMClaimTopCodes1
import Derived.Test.YtkipcobpnecmhaaGreatDoorMClaimTopCodes13
import Derived.Test.YtkipcobpnecmhaaGreatDoorMClaimTopCodes10
import Derived.Test.YtkipcobpnecmhaaGreatDoorMClaimTopCodes9
import Derived.Test.YtkipcobpnecmhaaGreatDoorMClaimTopCodes20
import Derived.Shelf.Small.Strs
import Derived.Shelf.Strings.Count
import Derived.Shelf.Strings.Search3
import Derived.Shelf.Strings.Split
import Derived.Lib.Split
import Derived.Lib.CountLaws
import Derived.Lib.IndexMore
import Derived.Lib.Strings

namespace Go.Proofs
open Go.Shelf
def Tryz.laysIxB_ren : Go.Shelf.Ren := ⟨fun | 137 => 31 | 217 => 55 | 266 => 100 | n => n, fun | 9 => 9 | 5 => 5 | 3 => 3 | n => n, fun | n => n⟩
theorem Tryz.laysIxB : Go.Proofs.Lays.n137 Tryz.prog Tryz.laysIxB_ren := {
  mixed := by kernel_rfl
  f137 := Tryz.func31.trans (congrArg some (by kernel_rfl))
  f217 := Tryz.func55.trans (congrArg some (by kernel_rfl))
  f266 := Tryz.func100.trans (congrArg some (by kernel_rfl))
  t3 := Tryz.underlying3
  a3 := Tryz.isAgg3
  z3 := Tryz.sizeOf3
  v3 := Tryz.zeroValue3
  t5 := Tryz.underlying5
  a5 := Tryz.isAgg5
  z5 := Tryz.sizeOf5
  v5 := Tryz.zeroValue5
  t9 := Tryz.underlying9
  a9 := Tryz.isAgg9
  z9 := Tryz.sizeOf9
  v9 := Tryz.zeroValue9 }

def Tryz.laysCnt_ren : Go.Shelf.Ren := ⟨fun | 138 => 147 | 195 => 162 | 218 => 163 | 143 => 149 | 219 => 164 | 217 => 55 | 225 => 156 | 224 => 155 | 267 => 166 | 266 => 100 | 314 => 167 | n => n, fun | 9 => 9 | 3 => 3 | 4 => 4 | 5 => 5 | 0 => 0 | 46 => 41 | 146 => 127 | 51 => 126 | n => n, fun | 1 => 2 | n => n⟩
theorem Tryz.laysCnt : Go.Proofs.Lays.n138 Tryz.prog Tryz.laysCnt_ren := {
  mixed := by kernel_rfl
  f138 := Tryz.func147.trans (congrArg some (by kernel_rfl))
  f143 := Tryz.func149.trans (congrArg some (by kernel_rfl))
  f195 := Tryz.func162.trans (congrArg some (by kernel_rfl))
  f217 := Tryz.func55.trans (congrArg some (by kernel_rfl))
  f218 := Tryz.func163.trans (congrArg some (by kernel_rfl))
  f219 := Tryz.func164.trans (congrArg some (by kernel_rfl))
  f224 := Tryz.func155.trans (congrArg some (by kernel_rfl))
  f225 := Tryz.func156.trans (congrArg some (by kernel_rfl))
  f266 := Tryz.func100.trans (congrArg some (by kernel_rfl))
  f267 := Tryz.func166.trans (congrArg some (by kernel_rfl))
  f314 := Tryz.func167.trans (congrArg some (by kernel_rfl))
  t0 := Tryz.underlying0
  a0 := Tryz.isAgg0
  z0 := Tryz.sizeOf0
  v0 := Tryz.zeroValue0
  t3 := Tryz.underlying3
  a3 := Tryz.isAgg3
  z3 := Tryz.sizeOf3
  v3 := Tryz.zeroValue3
  t4 := Tryz.underlying4
  a4 := Tryz.isAgg4
  z4 := Tryz.sizeOf4
  v4 := Tryz.zeroValue4
  t5 := Tryz.underlying5
  a5 := Tryz.isAgg5
  z5 := Tryz.sizeOf5
  v5 := Tryz.zeroValue5
  t9 := Tryz.underlying9
  a9 := Tryz.isAgg9
  z9 := Tryz.sizeOf9
  v9 := Tryz.zeroValue9
  t46 := Tryz.underlying41
  a46 := Tryz.isAgg41
  z46 := Tryz.sizeOf41
  v46 := Tryz.zeroValue41
  t51 := Tryz.underlying126
  a51 := Tryz.isAgg126
  z51 := Tryz.sizeOf126
  v51 := Tryz.zeroValue126
  t146 := Tryz.underlying127
  a146 := Tryz.isAgg127
  z146 := Tryz.sizeOf127
  v146 := Tryz.zeroValue127
  g1 := by kernel_rfl }

end Go.Proofs
namespace Go.Proofs.YtkipcobpnecmhaaGreatDoor
open Go.RowKit Go.Shelf

theorem u8_round (c : UInt8) : ((c.toNat : Int)).toNat.toUInt8 = c := by
  rw [Int.toNat_natCast]
  exact UInt8.ofNat_toNat
theorem ixB_any (l : List UInt8) (c : UInt8) (w : World) : Calls Tryz.prog 31 #[.string ⟨l.toArray⟩, .int .u8 (c.toNat : Int)] w fun e w' => e = .returned (.int .i64 (Lib.indexByte l c)) ∧ w = w' := by
  have h := Any.strings_IndexByte Tryz.laysIxB ⟨l.toArray⟩ (c.toNat : Int) w
  refine Calls.mono (R := fun e w' => e = .returned (.int .i64 (Lib.indexByte l ((c.toNat : Int)).toNat.toUInt8)) ∧ w' = w) h ?_
  rintro e w' ⟨rfl, rfl⟩
  rw [u8_round]
  exact ⟨rfl, rfl⟩
theorem cntB_any (l : List UInt8) (c : UInt8) (w : World) : Calls Tryz.prog 147 #[.string ⟨l.toArray⟩, .string ⟨#[c]⟩] w fun e w' => e = .returned (.int .i64 (Lib.countByte l c)) ∧ w = w' := by
  have h := Any.strings_Count_one Tryz.laysCnt ⟨l.toArray⟩ c w
  refine Calls.mono (R := fun e w' => e = .returned (.int .i64 (Lib.countByte l c)) ∧ w' = w) h ?_
  rintro e w' ⟨rfl, rfl⟩
  exact ⟨rfl, rfl⟩
set_option maxRecDepth 100000 in
set_option maxHeartbeats 2000000 in
theorem pieces_any (w : World) (hT : SpOk w) : Calls Tryz.prog 30 #[] w (TxtRes pieceC w) := by
  have H := Lib.hid (fields_any pieceS pieceC (by decide) (by decide +kernel) (by decide +kernel) w hT)
  unfold pieceS at H
  go_enter Tryz.func30, Tryz.ntmps30
  go_wp2_with fail
  refine H.out.mono ?_
  rintro e w1 ⟨g, rfl, hr, hb⟩
  go_wp2_with fail
  go_ret
  exact ⟨g, rfl, hr, hb⟩
end Go.Proofs.YtkipcobpnecmhaaGreatDoor


/-! Check letters of Code 39. -/
namespace Go.Proofs.YtkipcobpnecmhaaGreatDoor
open Go.RowKit Go.Shelf

def lets43 : List UInt8 := [48, 49, 50, 51, 52, 53, 54, 55, 56, 57, 65, 66, 67, 68, 69, 70, 71, 72, 73, 74, 75, 76, 77, 78, 79, 80, 81, 82, 83, 84, 85, 86, 87, 88, 89, 90, 45, 46, 32, 36, 47, 43, 37]
theorem ixB_ge (l : List UInt8) (c : UInt8) : -1 ≤ Lib.indexByte l c := Lib.indexByte_ge l c
theorem ixB_mem (l : List UInt8) (c : UInt8) : 0 ≤ Lib.indexByte l c ↔ c ∈ l := by
  constructor
  · intro h
    obtain ⟨o, ho⟩ : ∃ o : Nat, Lib.indexByte l c = o := ⟨(Lib.indexByte l c).toNat, by omega⟩
    exact List.mem_of_getElem? (Lib.indexByte_some ho).1
  · intro h
    have h1 := ixB_ge l c
    by_cases hn : Lib.indexByte l c = -1
    · obtain ⟨k, hk, rfl⟩ := List.getElem_of_mem h
      exact absurd (List.getElem?_eq_getElem hk) (Lib.indexByte_none hn k)
    · omega
theorem ixB_lt {l : List UInt8} {c : UInt8} (h : 0 ≤ Lib.indexByte l c) : Lib.indexByte l c < l.length ∧ l[(Lib.indexByte l c).toNat]? = some c := by
  obtain ⟨o, ho⟩ : ∃ o : Nat, Lib.indexByte l c = o := ⟨(Lib.indexByte l c).toNat, by omega⟩
  have h1 := (Lib.indexByte_some ho).1
  have h2 := (List.getElem?_eq_some_iff.1 h1).1
  rw [ho]
  exact ⟨by omega, by simpa using h1⟩
def isLet (c : UInt8) : Bool := lets43.contains c
def lettersOk (l : List UInt8) : Bool := l.all isLet
/-- The number of a letter. -/
def numL (c : UInt8) : Nat := (Lib.indexByte lets43 c).toNat
def sumL (l : List UInt8) : Nat → Nat
  | 0 => 0
  | i + 1 => sumL l i + numL (l.getD i 0)
def chkL (l : List UInt8) : List UInt8 := [lets44.getD (sumL l l.length % 43) 0]
def letErr (l : List UInt8) : Int := if l = [] then 9 else if 40 < l.length then 4 else if lettersOk l = true then 0 else 2
def letVal (l : List UInt8) : List UInt8 := if letErr l = 0 then chkL l else []
theorem isLet_ix {c : UInt8} : isLet c = true ↔ 0 ≤ Lib.indexByte lets43 c := by
  rw [ixB_mem]
  unfold isLet
  simp
theorem isLet_num {c : UInt8} (h : isLet c = true) : Lib.indexByte lets43 c = (numL c : Int) ∧ numL c < 43 ∧ lets43[numL c]? = some c := by
  have h1 := isLet_ix.1 h
  obtain ⟨h2, h3⟩ := ixB_lt h1
  unfold numL
  refine ⟨by omega, ?_, h3⟩
  have : (lets43.length : Int) = 43 := rfl
  omega
theorem sumL_le {l : List UInt8} (h : lettersOk l = true) : ∀ i, i ≤ l.length → sumL l i ≤ 43 * i
  | 0, _ => Nat.le_refl _
  | i + 1, hi => by
    have ih := sumL_le h i (by omega)
    have hg : l[i]? = some l[i] := List.getElem?_eq_getElem (by omega)
    have hk : isLet l[i] = true := List.all_eq_true.1 h _ (List.mem_of_getElem? hg)
    have h2 := (isLet_num hk).2.1
    show sumL l i + numL (l.getD i 0) ≤ _
    rw [List.getD_eq_getElem?_getD, hg]
    show sumL l i + numL l[i] ≤ _
    omega
theorem ok_take {l : List UInt8} {i : Nat} {c : UInt8} (h : lettersOk (l.take i) = true) (hg : l[i]? = some c) : lettersOk (l.take (i + 1)) = isLet c := by
  rw [List.take_add_one, hg]
  unfold lettersOk at h ⊢
  rw [List.all_append, h]
  simp
theorem sumL_succ {l : List UInt8} {i : Nat} {c : UInt8} (hg : l[i]? = some c) : sumL l (i + 1) = sumL l i + numL c := by
  show sumL l i + numL (l.getD i 0) = _
  rw [List.getD_eq_getElem?_getD, hg]
  rfl
theorem sumL_small {l : List UInt8} : ∀ i, i ≤ l.length → lettersOk (l.take i) = true → sumL l i ≤ 43 * i
  | 0, _, _ => Nat.le_refl _
  | i + 1, hi, h => by
    have hg : l[i]? = some l[i] := List.getElem?_eq_getElem (by omega)
    have h1 : lettersOk (l.take i) = true := by
      unfold lettersOk at h ⊢
      rw [List.all_eq_true] at h ⊢
      exact fun x hx => h x (by rw [List.take_add_one]; exact List.mem_append_left _ hx)
    have ih := sumL_small i (by omega) h1
    rw [ok_take h1 hg] at h
    have h2 := (isLet_num h).2.1
    rw [sumL_succ hg]
    omega
theorem letOf (l : List UInt8) (r n : Nat) (h : r < n) (hn : n ≤ l.length) : (⟨l.toArray⟩ : ByteArray).extract r (r + 1) = ⟨[l.getD r 0].toArray⟩ := by
  rw [slice_ab, show r + 1 - r = 1 by omega]
  congr 2
  rw [List.take_one, List.head?_drop, List.getD_eq_getElem?_getD, List.getElem?_eq_getElem (by omega)]
  rfl
theorem let43 {r : Nat} (h : r < 43) : lets43.getD r 0 = lets44.getD r 0 := by
  have : ∀ r < 43, lets43.getD r 0 = lets44.getD r 0 := by decide +kernel
  exact this r h
set_option maxRecDepth 100000 in
set_option maxHeartbeats 4000000 in
theorem checkLet_any (l : List UInt8) (w : World) (hl : l.length ≤ 9223372036854775807) :
    Calls Tryz.prog 29 #[.string ⟨l.toArray⟩] w fun e w' => e = .returned (.tuple #[.string ⟨(letVal l).toArray⟩, .int .i64 (letErr l)]) ∧ Bl w w' := by
  have hsz : (⟨l.toArray⟩ : ByteArray).size = l.length := Lib.size_mk l
  go_enter Tryz.func29, Tryz.ntmps29
  by_cases h0 : l = []
  · have hE : letErr l = 9 := by unfold letErr; rw [if_pos h0]
    have HV := Lib.hid (show letVal l = [] by unfold letVal; rw [hE]; rfl)
    have HE := Lib.hid hE
    have hemp : l.isEmpty = true := by rw [h0]; rfl
    clear h0 hE
    go_wp2_with fail
    exact bodyPost_ret (v := .tuple #[.string ⟨#[]⟩, .int .i64 9]) (by simp [results, Tryz.results29, go_sem]) rfl ⟨by rw [HV.out, HE.out], Bl.refl _⟩
  · have hemp : l.isEmpty = false := by cases l with | nil => exact absurd rfl h0 | cons a t => rfl
    by_cases h40 : 40 < l.length
    · have hE : letErr l = 4 := by unfold letErr; rw [if_neg h0, if_pos h40]
      have HV := Lib.hid (show letVal l = [] by unfold letVal; rw [hE]; rfl)
      have HE := Lib.hid hE
      have h40I : (40 : Int) < (l.length : Int) := by omega
      clear h0 hE h40
      go_wp2_with fail
      exact bodyPost_ret (v := .tuple #[.string ⟨#[]⟩, .int .i64 4]) (by simp [results, Tryz.results29, go_sem]) rfl ⟨by rw [HV.out, HE.out], Bl.refl _⟩
    · have hE : letErr l = if lettersOk l = true then 0 else 2 := by unfold letErr; rw [if_neg h0, if_neg h40]
      have h40I : (l.length : Int) ≤ 40 := by omega
      have HEE := Lib.hid hE; have H40 := Lib.hid h40
      clear h0 hE h40
      go_wp2_with fail
      go_loopw [4, 16] (fun s4 s16 wr => ∃ i : Nat, i ≤ l.length ∧ s16 = .int .i64 (i : Int) ∧ s4 = .int .i64 (sumL l i : Int) ∧ lettersOk (l.take i) = true ∧ w = wr) (fun _ v _ => l.length - (RowKit.intOf v).toNat)
      case atStart => exact ⟨0, Nat.zero_le _, rfl, rfl, rfl, rfl⟩
      case round =>
        rename World => wr
        obtain ⟨i, hi, rfl, rfl, hok, hw⟩ := hrel
        subst hw
        by_cases hlt : i < l.length
        · have hg : l[i]? = some l[i] := List.getElem?_eq_getElem hlt
          obtain ⟨c, hc⟩ : ∃ c, c = l[i] := ⟨_, rfl⟩
          rw [← hc] at hg
          obtain ⟨m1, m2⟩ := bytes_at hg
          have hltI : (i : Int) < (l.length : Int) := by omega
          have hok2 := ok_take hok hg
          have hss := sumL_succ hg
          have hsm := sumL_small i hi hok
          have hix := ixB_any lets43 c w
          unfold lets43 at hix
          cases hil : isLet c with
          | true =>
            obtain ⟨hn1, hn2, -⟩ := isLet_num hil
            unfold lets43 at hn1
            rw [hn1] at hix
            obtain ⟨n, hn⟩ : ∃ n, n = numL c := ⟨_, rfl⟩
            obtain ⟨s, hs⟩ : ∃ s, s = sumL l i := ⟨_, rfl⟩
            rw [← hn] at hix hn2 hss
            rw [← hs] at hss hsm ⊢
            have Hix := Lib.hid hix; have HSs := Lib.hid hss
            have HOk := Lib.hid (show lettersOk (l.take (i + 1)) = true by rw [hok2, hil])
            clear hix hss hn1 hn hs hok2 hil hg hc hok
            go_wp2_with fail
            refine Hix.out.mono ?_
            rintro e w' ⟨rfl, hw⟩
            subst hw
            go_wp2_with fail
            exact ⟨⟨i + 1, by omega, by go_num, by rw [HSs.out]; simp, HOk.out, by trivial⟩, by simp [RowKit.intOf] <;> omega⟩
          | false =>
            have hn1 : Lib.indexByte lets43 c = -1 := by
              have h1 := ixB_ge lets43 c
              have h2 : ¬ 0 ≤ Lib.indexByte lets43 c := fun h => by rw [isLet_ix.2 h] at hil; cases hil
              omega
            unfold lets43 at hn1
            rw [hn1] at hix
            have Hix := Lib.hid hix
            have hbad : lettersOk l = false := by
              cases hx : lettersOk l with
              | false => rfl
              | true =>
                have := List.all_eq_true.1 hx c (List.mem_of_getElem? hg)
                rw [this] at hil
                cases hil
            have hE : letErr l = 2 := HEE.out.trans (by rw [hbad]; rfl)
            have HV := Lib.hid (show letVal l = [] by unfold letVal; rw [hE]; rfl)
            have HE := Lib.hid hE
            clear hix hss hn1 hok2 hil hg hc hok hbad hE
            go_wp2_with fail
            refine Hix.out.mono ?_
            rintro e w' ⟨rfl, hw⟩
            subst hw
            go_wp2_with fail
            exact bodyPost_ret (v := .tuple #[.string ⟨#[]⟩, .int .i64 2]) (by simp [results, Tryz.results29, go_sem]) rfl ⟨by rw [HV.out, HE.out], Bl.refl _⟩
        · obtain rfl : i = l.length := by omega
          rw [List.take_length] at hok
          have hsm := sumL_le hok l.length (Nat.le_refl _)
          have hE : letErr l = 0 := HEE.out.trans (by rw [hok]; rfl)
          have HV := Lib.hid (show letVal l = chkL l by unfold letVal; rw [hE]; rfl)
          have HE := Lib.hid hE
          obtain ⟨s, hs⟩ : ∃ s, s = sumL l l.length := ⟨_, rfl⟩
          obtain ⟨r, hr⟩ : ∃ r, r = s % 43 := ⟨_, rfl⟩
          have hrm : (s : Int) % 43 = (r : Int) := by omega
          have hr43 : r < 43 := by omega
          have hex := letOf lets43 r 43 hr43 (by decide)
          rw [let43 hr43] at hex
          obtain ⟨X, hX⟩ : ∃ X, X = [lets44.getD r 0] := ⟨_, rfl⟩
          rw [← hX] at hex
          unfold lets43 at hex
          have HX := Lib.hid (show chkL l = X by unfold chkL; rw [← hs, ← hr, hX])
          rw [← hs] at hsm ⊢
          clear hE hok hs hr hX
          go_wp2_with fail
          exact bodyPost_ret (v := .tuple #[.string ⟨X.toArray⟩, .int .i64 0]) (by simp [results, Tryz.results29, go_sem]) rfl ⟨by rw [HV.out, HE.out, HX.out], Bl.refl _⟩
end Go.Proofs.YtkipcobpnecmhaaGreatDoor


/-! bar.Code39: the modules of a text. -/
namespace Go.Proofs.YtkipcobpnecmhaaGreatDoor
open Go.RowKit Go.Shelf Go.Sort

def num44 (c : UInt8) : Nat := (Lib.indexByte lets44 c).toNat
def wholeL (l : List UInt8) : List UInt8 := 42 :: (l ++ chkL l ++ [42])
def ksL (l : List UInt8) : List Nat := (wholeL l).map num44
def code39 (l : List UInt8) : List UInt8 := joinC (ksL l)
theorem joinC_Z : ∀ ks : List Nat, joinC ks = joinZ (ks.map modK)
  | [] => rfl
  | [k] => rfl
  | k :: k' :: ks => by
    show modK k ++ 48 :: joinC (k' :: ks) = modK k ++ 48 :: joinZ ((k' :: ks).map modK)
    rw [joinC_Z (k' :: ks)]
theorem modFrom_append : ∀ (a b : List UInt8) (i : Nat), modFrom i (a ++ b) = modFrom i a ++ modFrom (i + a.length) b
  | [], b, i => rfl
  | c :: a, b, i => by
    show List.replicate (runOf c) (bitAt i) ++ modFrom (i + 1) (a ++ b) = (List.replicate (runOf c) (bitAt i) ++ modFrom (i + 1) a) ++ modFrom (i + (a.length + 1)) b
    rw [modFrom_append a b (i + 1), List.append_assoc, show i + 1 + a.length = i + (a.length + 1) by omega]
theorem modFrom_take {p : List UInt8} {j : Nat} {c : UInt8} (h : p[j]? = some c) : modFrom 0 (p.take (j + 1)) = modFrom 0 (p.take j) ++ List.replicate (runOf c) (bitAt j) := by
  have hlt := (List.getElem?_eq_some_iff.1 h).1
  rw [List.take_add_one, h, modFrom_append, List.length_take, Nat.min_eq_left (by omega), Nat.zero_add]
  show _ ++ (List.replicate (runOf c) (bitAt j) ++ []) = _
  rw [List.append_nil]
theorem modFrom_len : ∀ (p : List UInt8) (i : Nat), (modFrom i p).length ≤ 3 * p.length
  | [], _ => Nat.le_refl _
  | c :: p, i => by
    have ih := modFrom_len p (i + 1)
    show (List.replicate (runOf c) (bitAt i) ++ modFrom (i + 1) p).length ≤ _
    rw [List.length_append, List.length_replicate, List.length_cons]
    have : runOf c ≤ 3 := by unfold runOf; split <;> decide
    omega
theorem pieceC_at (k : Nat) (h : k < 44) : pieceC[k]? = some (pieceK k) := by
  unfold pieceK
  rw [List.getD_eq_getElem?_getD, List.getElem?_eq_getElem (show k < pieceC.length from h)]
  rfl
set_option maxRecDepth 100000 in
theorem piece_sign : ∀ k < 44, ∀ i < 9, (pieceK k).getD i 0 = 119 ∨ (pieceK k).getD i 0 = 110 := by decide +kernel
theorem piece_at {k i : Nat} (hk : k < 44) (hi : i < 9) : ∃ c, (pieceK k)[i]? = some c ∧ (c = 119 ∨ c = 110) := by
  have h9 := (modK_all k hk).2.2.2
  have hg : (pieceK k)[i]? = some (pieceK k)[i] := List.getElem?_eq_getElem (by omega)
  refine ⟨_, hg, ?_⟩
  have := piece_sign k hk i hi
  rw [List.getD_eq_getElem?_getD, hg] at this
  exact this
set_option maxRecDepth 100000 in
theorem num44_all : ∀ c ∈ lets44, num44 c < 44 ∧ Lib.indexByte lets44 c = (num44 c : Int) := by decide +kernel
theorem whole_mem {l : List UInt8} (h : lettersOk l = true) : ∀ c ∈ wholeL l, c ∈ lets44 := by
  have h43 : ∀ c ∈ lets43, c ∈ lets44 := by decide +kernel
  intro c hc
  rcases List.mem_cons.1 hc with rfl | hc
  · decide
  · rcases List.mem_append.1 hc with hc | hc
    · rcases List.mem_append.1 hc with hc | hc
      · have := List.all_eq_true.1 h c hc
        exact h43 c (by unfold isLet at this; simpa using this)
      · unfold chkL at hc
        rw [List.mem_singleton.1 hc]
        have : ∀ r < 43, lets44.getD r 0 ∈ lets44 := by decide +kernel
        exact this _ (Nat.mod_lt _ (by decide))
    · rw [List.mem_singleton.1 hc]; decide
theorem whole_len (l : List UInt8) : (wholeL l).length = l.length + 3 := by
  unfold wholeL chkL
  simp
theorem modK_succ {k i : Nat} {c : UInt8} (h : (pieceK k)[i]? = some c) : modFrom 0 ((pieceK k).take (i + 1)) = modFrom 0 ((pieceK k).take i) ++ List.replicate (runOf c) (bitAt i) := modFrom_take h
theorem mods_len : ∀ ks : List Nat, (∀ k ∈ ks, k < 44) → (joinC ks).length ≤ 16 * ks.length
  | [], _ => Nat.le_refl _
  | [k], h => by
    show (modK k).length ≤ 16
    rw [(modK_all k (h k (List.mem_cons_self ..))).1]
    decide
  | k :: k' :: ks, h => by
    have ih := mods_len (k' :: ks) (fun x hx => h x (List.mem_cons_of_mem _ hx))
    show (modK k ++ 48 :: joinC (k' :: ks)).length ≤ _
    rw [List.length_append, List.length_cons, (modK_all k (h k (List.mem_cons_self ..))).1]
    simp only [List.length_cons] at ih ⊢
    omega
theorem ksL_lt {l : List UInt8} (h : lettersOk l = true) : ∀ k ∈ ksL l, k < 44 := fun k hk => by
  obtain ⟨c, hc, rfl⟩ := List.mem_map.1 hk
  exact (num44_all c (whole_mem h c hc)).1
theorem code39_len {l : List UInt8} (h : lettersOk l = true) : (code39 l).length ≤ 16 * (l.length + 3) := by
  have := mods_len (ksL l) (ksL_lt h)
  unfold ksL at this
  rw [List.length_map, whole_len] at this
  exact this
theorem ten0 : (⟨#[49, 48]⟩ : ByteArray).extract 0 1 = ⟨#[49]⟩ := rfl
theorem ten1 : (⟨#[49, 48]⟩ : ByteArray).extract 1 2 = ⟨#[48]⟩ := rfl
theorem bytes_cell (w : World) (e : TypeId) (l : List UInt8) : ∀ (i : Nat) (c : UInt8), l[i]? = some c → (Lib.bytesWorld w e ⟨l.toArray⟩).cell? ⟨w.heap.size, i, none⟩ = some (.int .u8 (c.toNat : Int)) := fun i c h => by
  have hlt := (List.getElem?_eq_some_iff.1 h).1
  have hh := (holds_bytes w e l i (by simpa using hlt)).1
  rw [Nat.zero_add] at hh
  rw [hh]
  unfold encB
  have : l.toArray[i]! = c := by
    rw [getElem!_pos l.toArray i (by simpa using hlt)]
    have := (List.getElem?_eq_some_iff.1 h).2
    simpa using this
  rw [this]
def codeRes (l : List UInt8) : List UInt8 := if letErr l = 0 then code39 l else []
set_option maxRecDepth 100000 in
set_option maxHeartbeats 8000000 in
theorem code39_any (l : List UInt8) (w : World) (hl : l.length ≤ 9223372036854775807) (hT : SpOk w) :
    Calls Tryz.prog 7 #[.string ⟨l.toArray⟩] w fun e w' => e = .returned (.tuple #[.string ⟨(codeRes l).toArray⟩, .int .i64 (letErr l)]) ∧ Bl w w' := by
  have HT := Lib.hid hT
  have hc := fun wx => checkLet_any l wx hl
  obtain ⟨ev, hev⟩ : ∃ ev, ev = letErr l := ⟨_, rfl⟩
  rw [← hev] at hc ⊢
  by_cases h0 : ev = 0
  · subst h0
    have hv : letVal l = chkL l := by unfold letVal; rw [← hev]; rfl
    have HV := Lib.hid (show codeRes l = code39 l by unfold codeRes; rw [← hev]; rfl)
    rw [hv] at hc
    have hok : lettersOk l = true ∧ l.length ≤ 40 := by
      unfold letErr at hev
      by_cases a : l = []
      · rw [if_pos a] at hev; cases hev
      · rw [if_neg a] at hev
        by_cases b : 40 < l.length
        · rw [if_pos b] at hev; cases hev
        · rw [if_neg b] at hev
          refine ⟨?_, by omega⟩
          cases hx : lettersOk l with
          | true => rfl
          | false => rw [hx] at hev; cases hev
    obtain ⟨hok, h40⟩ := hok
    obtain ⟨X, hX⟩ : ∃ X, X = chkL l := ⟨_, rfl⟩
    have hX1 : X.length = 1 := by rw [hX]; rfl
    obtain ⟨A, hA⟩ : ∃ A, A = 42 :: l := ⟨_, rfl⟩
    obtain ⟨B, hB⟩ : ∃ A', A' = A ++ X := ⟨_, rfl⟩
    obtain ⟨W, hW⟩ : ∃ W, W = wholeL l := ⟨_, rfl⟩
    have hWl : W.length = l.length + 3 := by rw [hW, whole_len]
    have hAl : A.length = l.length + 1 := by rw [hA]; rfl
    have hBl : B.length = l.length + 2 := by rw [hB, List.length_append, hAl, hX1]
    have hcA : (⟨#[42]⟩ : ByteArray) ++ ⟨l.toArray⟩ = ⟨A.toArray⟩ := by rw [hA]; exact cat_two [42] l
    have hcB : (⟨A.toArray⟩ : ByteArray) ++ ⟨X.toArray⟩ = ⟨B.toArray⟩ := by rw [hB]; exact cat_two A X
    have hcW : (⟨B.toArray⟩ : ByteArray) ++ ⟨#[42]⟩ = ⟨W.toArray⟩ := by
      rw [show (⟨#[42]⟩ : ByteArray) = ⟨[42].toArray⟩ from rfl, cat_two, hW, hB, hA, hX]
      unfold wholeL
      simp
    have HWm := Lib.hid (show ∀ c ∈ W, c ∈ lets44 from hW ▸ whole_mem hok)
    have HC := Lib.hid (show code39 l = joinZ ((W.map num44).map modK) by rw [hW]; exact joinC_Z _)
    have HCl := Lib.hid (code39_len hok)
    rw [← hX] at hc
    have Hc := Lib.hid hc
    have hsl : (⟨l.toArray⟩ : ByteArray).size = l.length := Lib.size_mk l
    have hsX : (⟨X.toArray⟩ : ByteArray).size = X.length := Lib.size_mk X
    have hsA : (⟨A.toArray⟩ : ByteArray).size = A.length := Lib.size_mk A
    have hsB : (⟨B.toArray⟩ : ByteArray).size = B.length := Lib.size_mk B
    have hsW : (⟨W.toArray⟩ : ByteArray).size = W.length := Lib.size_mk W
    have o1 : ¬ (9223372036854775807 < 1 + l.length) := by omega
    have o2 : ¬ (9223372036854775807 < A.length + X.length) := by omega
    have o3 : ¬ (9223372036854775807 < B.length + 1) := by omega
    clear hX hA hB hW hc hok hv hev
    go_enter Tryz.func7, Tryz.ntmps7
    go_wp2_with fail
    refine (Hc.out _).mono ?_
    rintro e w1 ⟨rfl, hb1⟩
    go_wp2_with fail
    refine (pieces_any _ (HT.out.bl hb1)).mono ?_
    rintro e w2 ⟨gp, rfl, hr2, hb2⟩
    have HB2 := Lib.hid (hb1.trans hb2); have HR2 := Lib.hid hr2
    clear hb1 hb2 hr2 Hc
    go_wp2_with fail
    rw [Lib.run_convert_string_bytes w2 9 40 5 ⟨W.toArray⟩ Tryz.underlying9 Tryz.underlying40 Tryz.underlying5, Lib.size_mk]
    have hH := bytes_cell w2 5 W
    have hb3 := bl_bytes w2 5 ⟨W.toArray⟩
    obtain ⟨gb, hgb⟩ : ∃ x, x = w2.heap.size := ⟨_, rfl⟩
    obtain ⟨cp, hcp⟩ : ∃ x, x = grownCap w2 W.length 0 5 := ⟨_, rfl⟩
    rw [← hgb] at hH ⊢
    rw [← hcp]
    generalize Lib.bytesWorld w2 5 ⟨W.toArray⟩ = w3 at hH hb3 ⊢
    have HH := Lib.hid hH; have HB3 := Lib.hid (HB2.out.trans hb3); have HR3 := Lib.hid (HR2.out.bl hb3)
    clear hH hb3 hgb hcp HB2 HR2
    go_wp2_with fail
    go_loopw [7, 30] (fun s7 s30 wr => ∃ (i : Nat) (v : Value), i ≤ W.length ∧ s30 = .int .i64 (i : Int) ∧ v = s7 ∧ Bl w3 wr ∧ wr.ownsRow w3.heap.size 9 1 v i (strCells' (((W.take i).map num44).map modK))) (fun _ v _ => W.length - (RowKit.intOf v).toNat)
    case atStart => exact ⟨0, _, Nat.zero_le _, rfl, rfl, Bl.refl _, World.ownsRow_nil _ _ _ _⟩
    case round =>
      rename World => wr
      obtain ⟨i, v, hi, rfl, rfl, hbr, hown⟩ := hrel
      have HBr := Lib.hid hbr; have HOw := Lib.hid hown
      clear hbr hown
      by_cases hlt : i < W.length
      · have hg : W[i]? = some W[i] := List.getElem?_eq_getElem hlt
        obtain ⟨c, hc⟩ : ∃ c, c = W[i] := ⟨_, rfl⟩
        rw [← hc] at hg
        have hm := HWm.out c (List.mem_of_getElem? hg)
        obtain ⟨hk44, hix0⟩ := num44_all c hm
        have hix := fun wx => ixB_any lets44 c wx
        simp only [hix0] at hix
        have hts : ((W.take (i + 1)).map num44).map modK = ((W.take i).map num44).map modK ++ [modK (num44 c)] := by
          rw [List.take_add_one, hg, List.map_append, List.map_append]; rfl
        have hcell := HBr.out.at (HH.out i c hg)
        obtain ⟨k, hk⟩ : ∃ k, k = num44 c := ⟨_, rfl⟩
        rw [← hk] at hk44 hix hts
        unfold lets44 at hix
        have hltI : (i : Int) < (W.length : Int) := by omega
        have Hix := Lib.hid hix; have HTs := Lib.hid hts
        obtain ⟨adp, eap, cp0⟩ := str_at (HR3.out.bl HBr.out) (pieceC_at k hk44)
        obtain rfl := Option.some.inj eap
        rw [add_flat] at cp0
        have hkI : (k : Int) < (pieceC.length : Int) := by show (k : Int) < 44; omega
        clear hix hix0 hts hk hm hg hc
        go_wp2_with fail
        refine (Hix.out _).mono ?_
        rintro e w' ⟨rfl, hw⟩
        subst hw
        go_wp2_with fail
        go_loopw [11, 36] (fun s11 s36 wx => ∃ j : Nat, j ≤ 9 ∧ s36 = .int .i64 (j : Int) ∧ s11 = .string ⟨(modFrom 0 ((pieceK k).take j)).toArray⟩ ∧ Bl wr wx) (fun _ v _ => 9 - (RowKit.intOf v).toNat)
        case atStart => exact ⟨0, Nat.zero_le _, rfl, rfl, Bl.refl _⟩
        case round =>
          rename World => wx
          obtain ⟨j, hj, rfl, rfl, hbx⟩ := hrel
          have hml := modFrom_len ((pieceK k).take j) 0
          rw [List.length_take] at hml
          by_cases hjt : j < 9
          · obtain ⟨p, hp, hp2⟩ := piece_at hk44 hjt
            obtain ⟨n1, n2⟩ := bytes_at hp
            have hms := modK_succ hp
            obtain ⟨M, hM⟩ : ∃ M, M = modFrom 0 ((pieceK k).take j) := ⟨_, rfl⟩
            rw [← hM] at hms hml ⊢
            have hMl : M.length ≤ 27 := by omega
            have hsM : (⟨M.toArray⟩ : ByteArray).size = M.length := Lib.size_mk M
            have hcx := hbx.at cp0
            obtain ⟨q, hq⟩ : ∃ q, q = pieceK k := ⟨_, rfl⟩
            rw [← hq] at hcx
            have n1' : j < (⟨q.toArray⟩ : ByteArray).size := by rw [hq]; exact n1
            have n2' : (⟨q.toArray⟩ : ByteArray)[j]'n1' = p := by subst hq; exact n2
            have HMs := Lib.hid hms; have HBx := Lib.hid hbx
            have ht0 := ten0; have ht1 := ten1
            clear hms hM hml hp hbx n1 n2 hq
            by_cases hpar : j % 2 = 0
            · rcases hp2 with rfl | rfl
              · have HB := Lib.hid (show bitAt j = 49 by unfold bitAt; rw [if_pos hpar])
                have hmr : (j : Int) % 2 = 0 := by omega
                have hrep := fun wx => repeat_any 49 (.inr rfl) 3 (by decide) (by decide) wx
                obtain ⟨rp, hrp⟩ : ∃ r, r = List.replicate 3 (49 : UInt8) := ⟨_, rfl⟩
                have hrl : rp.length = 3 := by rw [hrp]; rfl
                simp only [← hrp] at hrep
                have Hrep := Lib.hid hrep
                have HRp := Lib.hid hrp
                have hsR : (⟨rp.toArray⟩ : ByteArray).size = rp.length := Lib.size_mk rp
                have hoR : ¬ (9223372036854775807 < M.length + rp.length) := by omega
                have hcat := cat_two M rp
                clear hrep hrp
                go_wp2_with fail
                refine (Hrep.out _).mono ?_
                rintro e w5 ⟨rfl, hb5⟩
                have HB5 := Lib.hid (HBx.out.trans hb5)
                clear hb5
                go_wp2_with fail
                exact ⟨⟨j + 1, by omega, by go_num, by rw [HMs.out, HB.out, show runOf 119 = 3 from rfl, ← HRp.out, ← hcat], HB5.out⟩, by simp [RowKit.intOf] <;> omega⟩
              · have HB := Lib.hid (show bitAt j = 49 by unfold bitAt; rw [if_pos hpar])
                have hmr : (j : Int) % 2 = 0 := by omega
                have hoR : ¬ (9223372036854775807 < M.length + 1) := by omega
                have hcat : (⟨M.toArray⟩ : ByteArray) ++ ⟨#[49]⟩ = ⟨(M ++ [49]).toArray⟩ := cat_two M [49]
                go_wp2_with fail
                exact ⟨⟨j + 1, by omega, by go_num, by rw [HMs.out, HB.out, show List.replicate (runOf 110) (49 : UInt8) = [49] from rfl, ← hcat], HBx.out⟩, by simp [RowKit.intOf] <;> omega⟩
            · rcases hp2 with rfl | rfl
              · have HB := Lib.hid (show bitAt j = 48 by unfold bitAt; rw [if_neg (by omega)])
                have hmr : (j : Int) % 2 = 1 := by omega
                have hrep := fun wx => repeat_any 48 (.inl rfl) 3 (by decide) (by decide) wx
                obtain ⟨rp, hrp⟩ : ∃ r, r = List.replicate 3 (48 : UInt8) := ⟨_, rfl⟩
                have hrl : rp.length = 3 := by rw [hrp]; rfl
                simp only [← hrp] at hrep
                have Hrep := Lib.hid hrep
                have HRp := Lib.hid hrp
                have hsR : (⟨rp.toArray⟩ : ByteArray).size = rp.length := Lib.size_mk rp
                have hoR : ¬ (9223372036854775807 < M.length + rp.length) := by omega
                have hcat := cat_two M rp
                clear hrep hrp
                go_wp2_with fail
                refine (Hrep.out _).mono ?_
                rintro e w5 ⟨rfl, hb5⟩
                have HB5 := Lib.hid (HBx.out.trans hb5)
                clear hb5
                go_wp2_with fail
                exact ⟨⟨j + 1, by omega, by go_num, by rw [HMs.out, HB.out, show runOf 119 = 3 from rfl, ← HRp.out, ← hcat], HB5.out⟩, by simp [RowKit.intOf] <;> omega⟩
              · have HB := Lib.hid (show bitAt j = 48 by unfold bitAt; rw [if_neg (by omega)])
                have hmr : (j : Int) % 2 = 1 := by omega
                have hoR : ¬ (9223372036854775807 < M.length + 1) := by omega
                have hcat : (⟨M.toArray⟩ : ByteArray) ++ ⟨#[48]⟩ = ⟨(M ++ [48]).toArray⟩ := cat_two M [48]
                go_wp2_with fail
                exact ⟨⟨j + 1, by omega, by go_num, by rw [HMs.out, HB.out, show List.replicate (runOf 110) (48 : UInt8) = [48] from rfl, ← hcat], HBx.out⟩, by simp [RowKit.intOf] <;> omega⟩
          · obtain rfl : j = 9 := by omega
            have hm9 : modFrom 0 ((pieceK k).take 9) = modK k := by
              rw [List.take_of_length_le (by rw [(modK_all k hk44).2.2.2]; omega)]
              rfl
            rw [hm9]
            obtain ⟨M, hM⟩ : ∃ M, M = modK k := ⟨_, rfl⟩
            have HTs2 := Lib.hid (show ((W.take (i + 1)).map num44).map modK = ((W.take i).map num44).map modK ++ [M] by rw [HTs.out, hM])
            rw [← hM]
            have HBx := Lib.hid hbx
            have hi43 : i ≤ 43 := by omega
            clear hm9 hM hml hbx
            go_wp2_with (at_builtin; refine wpList_append_one (w1 := w3) rfl (.tmp 58) (.tmp 60) 54 rfl 9 (.string ByteArray.empty) 16 Tryz.underlying54 info_str rfl w3.heap.size _ i _ rfl (.string ⟨M.toArray⟩) rfl rfl (HBr.out.trans HBx.out) (Nat.le_refl _) (by have := HBr.out.le; have := HBx.out.le; omega) (own_bl HOw.out HBx.out) (by omega) (by unfold maxLen; omega) ?_; intro v' w8 hown8 hb8 hg8)
            have H9 := Lib.hid (show w8.ownsRow w3.heap.size 9 1 v' (i + 1) (strCells' (((W.take (i + 1)).map num44).map modK)) by
              rw [HTs2.out]
              unfold strCells' at hown8 ⊢
              rw [List.map_append]
              exact hown8)
            have HB8 := Lib.hid hb8
            clear hown8 hb8 hg8
            go_wp2_with fail
            exact ⟨⟨i + 1, v', by omega, by go_num, rfl, HB8.out, H9.out⟩, by simp [RowKit.intOf] <;> omega⟩
      · obtain rfl : i = W.length := by omega
        rw [List.take_length] at HOw
        obtain ⟨ts, hts⟩ : ∃ ts, ts = (W.map num44).map modK := ⟨_, rfl⟩
        have htl : ts.length = W.length := by rw [hts, List.length_map, List.length_map]
        rw [← hts] at HOw
        have HCd := Lib.hid (show code39 l = joinZ ts by rw [HC.out, hts])
        have hjl := HCl.out
        rw [HCd.out] at hjl
        obtain ⟨g7, c7, hv, -, hcap⟩ := own_some HOw.out (by omega)
        obtain ⟨A7, c7', hv', hrd⟩ := own_reads HOw.out
        rw [hv] at hv'
        injection hv' with e1 e2 e3
        subst e1
        subst e3
        have hjn := joinZ_any (some ⟨g7, 0, none⟩) c7 ts wr (by rw [htl]; exact hrd) (by omega) (by omega) (by omega)
        rw [htl] at hjn
        have Hjn := Lib.hid hjn
        subst hv
        have hnl : ¬ ((W.length : Int) < (l.length : Int) + 3) := by omega
        clear hjn hrd hts htl hjl hcap hWl
        go_wp2_with fail
        refine Hjn.out.mono ?_
        rintro e w9 ⟨rfl, hb9⟩
        go_wp2_with fail
        exact bodyPost_ret (v := .tuple #[.string ⟨(joinZ ts).toArray⟩, .int .i64 0]) (by simp [results, Tryz.results7, go_sem]) rfl ⟨by rw [HV.out, HCd.out], (HB3.out.trans HBr.out).trans hb9⟩
  · have HV := Lib.hid (show codeRes l = [] by unfold codeRes; rw [if_neg (by rw [← hev]; exact h0)])
    have hv : letVal l = [] := by unfold letVal; rw [if_neg (by rw [← hev]; exact h0)]
    rw [hv] at hc
    have Hc := Lib.hid hc
    have hq : (ev != 0) = true := by rw [bne_iff_ne]; exact h0
    clear hc hv hev
    go_enter Tryz.func7, Tryz.ntmps7
    go_wp2_with fail
    refine (Hc.out _).mono ?_
    rintro e w1 ⟨rfl, hb1⟩
    go_wp2_with fail
    exact bodyPost_ret (v := .tuple #[.string ⟨#[]⟩, .int .i64 ev]) (by simp [results, Tryz.results7, go_sem]) rfl ⟨by rw [HV.out], hb1⟩

end Go.Proofs.YtkipcobpnecmhaaGreatDoor


/-! bar.lengths: the runs of modules. -/
namespace Go.Proofs.YtkipcobpnecmhaaGreatDoor
open Go.RowKit Go.Shelf

/-- The runs of the first i signs: those that are done, and the last one's length. -/
def rn (s : List UInt8) : Nat → List Nat × Nat
  | 0 => ([], 0)
  | i + 1 => if i = 0 then ([], 1) else if s[i]? = s[i - 1]? then ((rn s i).1, (rn s i).2 + 1) else ((rn s i).1 ++ [(rn s i).2], 1)
def runsM (s : List UInt8) : List Nat := (rn s s.length).1 ++ [(rn s s.length).2]
/-- The runs of the first i signs. -/
def runsP (s : List UInt8) (i : Nat) : List Nat := if i = 0 then [] else (rn s i).1 ++ [(rn s i).2]
def lenOK (s : List UInt8) : Bool := !s.isEmpty && (madeOf s [48, 49] && (s.getD 0 0 == 49 && s.getD (s.length - 1) 0 == 49))
theorem rn_len (s : List UInt8) : ∀ i, (rn s i).1.length ≤ i ∧ (rn s i).2 ≤ i
  | 0 => ⟨Nat.le_refl _, Nat.le_refl _⟩
  | i + 1 => by
    obtain ⟨h1, h2⟩ := rn_len s i
    unfold rn
    split
    · exact ⟨Nat.zero_le _, by omega⟩
    · split
      · exact ⟨by show (rn s i).1.length ≤ i + 1; omega, by show (rn s i).2 + 1 ≤ i + 1; omega⟩
      · refine ⟨?_, by show 1 ≤ i + 1; omega⟩
        show ((rn s i).1 ++ [(rn s i).2]).length ≤ i + 1
        rw [List.length_append, List.length_singleton]
        omega
theorem rn_one (s : List UInt8) : rn s 1 = ([], 1) := rfl
theorem rn_same {s : List UInt8} {i : Nat} (h0 : 1 ≤ i) (h : s[i]? = s[i - 1]?) : rn s (i + 1) = ((rn s i).1, (rn s i).2 + 1) := by
  show (if i = 0 then _ else if s[i]? = s[i - 1]? then _ else _) = _
  rw [if_neg (by omega), if_pos h]
theorem rn_new {s : List UInt8} {i : Nat} (h0 : 1 ≤ i) (h : s[i]? ≠ s[i - 1]?) : rn s (i + 1) = ((rn s i).1 ++ [(rn s i).2], 1) := by
  show (if i = 0 then _ else if s[i]? = s[i - 1]? then _ else _) = _
  rw [if_neg (by omega), if_neg h]
theorem bit_two {a b : UInt8} (ha : a = 48 ∨ a = 49) (hb : b = 48 ∨ b = 49) (n : Nat) (h : b = bitAt n) (hne : a ≠ b) : a = bitAt (n + 1) := by
  have h2 := bitAt_ne n
  have h3 : bitAt (n + 1) = 48 ∨ bitAt (n + 1) = 49 := by unfold bitAt; split; exact .inr rfl; exact .inl rfl
  rw [h] at hne hb
  rcases ha with rfl | rfl <;> rcases hb with hb | hb <;> rcases h3 with h3 | h3 <;> rw [hb] at hne h2 <;> rw [h3] at h2 ⊢ <;> first | rfl | exact absurd rfl hne | exact absurd rfl h2
theorem expand_last (n c : Nat) (l : List Nat) (h : l.length = n) : expand 0 (l ++ [c]) = expand 0 l ++ List.replicate c (bitAt n) := by
  rw [expand_append, h, Nat.zero_add]
  show _ ++ (List.replicate c (bitAt n) ++ []) = _
  rw [List.append_nil]
theorem rn_spec {s : List UInt8} (hm : madeOf s [48, 49] = true) (h49 : s[0]? = some 49) : ∀ i, 1 ≤ i → i ≤ s.length → expand 0 ((rn s i).1 ++ [(rn s i).2]) = s.take i ∧ (∀ n ∈ (rn s i).1, 1 ≤ n) ∧ 1 ≤ (rn s i).2 ∧ s[i - 1]? = some (bitAt (rn s i).1.length)
  | 0, h, _ => absurd h (by decide)
  | i + 1, _, hi => by
    by_cases h0 : i = 0
    · subst h0
      rw [rn_one]
      refine ⟨?_, fun n h => (by cases h), Nat.le_refl _, h49⟩
      cases s with
      | nil => cases h49
      | cons a t =>
        obtain rfl := Option.some.inj h49
        rfl
    · obtain ⟨e1, e2, e3, e4⟩ := rn_spec hm h49 i (by omega) (by omega)
      have hg : s[i]? = some s[i] := List.getElem?_eq_getElem (by omega)
      have bits : ∀ (j : Nat) (b : UInt8), s[j]? = some b → b = 48 ∨ b = 49 := fun j b h => by
        have := List.all_eq_true.1 hm b (List.mem_of_getElem? h)
        simpa using this
      by_cases hs : s[i]? = s[i - 1]?
      · rw [rn_same (by omega) hs]
        refine ⟨?_, e2, by show 1 ≤ (rn s i).2 + 1; omega, by rw [Nat.add_sub_cancel, hs]; exact e4⟩
        show expand 0 ((rn s i).1 ++ [(rn s i).2 + 1]) = _
        rw [expand_last _ _ _ rfl, List.replicate_succ', ← List.append_assoc, ← expand_last _ _ _ rfl, e1, List.take_add_one, hs, e4]
        rfl
      · rw [rn_new (by omega) hs]
        have hb := bits i _ hg
        have hb2 := bits (i - 1) _ e4
        have hx : s[i] = bitAt ((rn s i).1.length + 1) := bit_two hb hb2 _ rfl (fun e => hs (by rw [hg, e4, e]))
        refine ⟨?_, fun n hn => ?_, Nat.le_refl _, ?_⟩
        · show expand 0 (((rn s i).1 ++ [(rn s i).2]) ++ [1]) = _
          rw [expand_last ((rn s i).1.length + 1) _ _ (by rw [List.length_append]; rfl), e1, List.take_add_one, hg, hx]
          rfl
        · rcases List.mem_append.1 hn with hn | hn
          · exact e2 n hn
          · rw [List.mem_singleton.1 hn]; exact e3
        · rw [Nat.add_sub_cancel, hg, hx]
          show _ = some (bitAt ((rn s i).1 ++ [(rn s i).2]).length)
          rw [List.length_append]
          rfl
theorem lenOK_iff {s : List UInt8} (h : lenOK s = true) : s ≠ [] ∧ madeOf s [48, 49] = true ∧ s[0]? = some 49 ∧ s[s.length - 1]? = some 49 := by
  unfold lenOK at h
  simp only [Bool.and_eq_true, Bool.not_eq_true', beq_iff_eq] at h
  obtain ⟨h1, h2, h3, h4⟩ := h
  have hne : s ≠ [] := fun e => by rw [e] at h1; cases h1
  have hl : 0 < s.length := List.length_pos_iff.2 hne
  refine ⟨hne, h2, ?_, ?_⟩
  · rw [List.getD_eq_getElem?_getD, List.getElem?_eq_getElem hl] at h3
    rw [List.getElem?_eq_getElem hl]
    exact congrArg some h3
  · rw [List.getD_eq_getElem?_getD, List.getElem?_eq_getElem (by omega)] at h4
    rw [List.getElem?_eq_getElem (by omega)]
    exact congrArg some h4
theorem runsM_spec {s : List UInt8} (h : lenOK s = true) : expand 0 (runsM s) = s ∧ ∀ n ∈ runsM s, 1 ≤ n := by
  obtain ⟨h1, h2, h3, -⟩ := lenOK_iff h
  have hl : 0 < s.length := List.length_pos_iff.2 h1
  obtain ⟨e1, e2, e3, -⟩ := rn_spec h2 h3 s.length hl (Nat.le_refl _)
  refine ⟨by unfold runsM; rw [e1, List.take_length], fun n hn => ?_⟩
  unfold runsM at hn
  rcases List.mem_append.1 hn with hn | hn
  · exact e2 n hn
  · rw [List.mem_singleton.1 hn]; exact e3
/-- Modules that are not so have no code. -/
theorem decM_bad {s : List UInt8} (hm : madeOf s [48, 49] = true) (h : lenOK s = false) : decM s = none := by
  cases hd : decM s with
  | none => rfl
  | some ks =>
    exfalso
    have hj := join_decM hd
    have hlt := decM_lt hd
    obtain ⟨h1, h2⟩ := (decM_iff _ _).1 hd
    have hne := decM_ne hd
    have hkl : 0 < ks.length := List.length_pos_iff.2 hne
    obtain ⟨k0, hk0⟩ : ∃ k, ks[0]? = some k := ⟨_, List.getElem?_eq_getElem hkl⟩
    obtain ⟨kn, hkn⟩ : ∃ k, ks[ks.length - 1]? = some k := ⟨_, List.getElem?_eq_getElem (by omega)⟩
    obtain ⟨-, l0, g0⟩ := (gR_iff _ _ _).1 (h2 _ _ hk0)
    obtain ⟨-, ln, gn⟩ := (gR_iff _ _ _).1 (h2 _ _ hkn)
    have f0 : s.getD 0 0 = 49 := by
      have := (modK_all k0 l0).2.1
      rw [← g0, List.getD_eq_getElem?_getD, List.getElem?_take_of_lt (by decide), List.getElem?_drop] at this
      rw [List.getD_eq_getElem?_getD]
      exact this
    have fn : s.getD (s.length - 1) 0 = 49 := by
      have := (modK_all kn ln).2.2.1
      rw [← gn, List.getD_eq_getElem?_getD, List.getElem?_take_of_lt (by decide), List.getElem?_drop] at this
      rw [List.getD_eq_getElem?_getD, show s.length - 1 = 16 * (ks.length - 1) + 14 by omega]
      exact this
    have hemp : s.isEmpty = false := by
      cases s with
      | nil => simp at h1; omega
      | cons a t => rfl
    unfold lenOK at h
    rw [hemp, hm, f0, fn] at h
    cases h
def LenRes (s : List UInt8) (w : World) (e : Ending) (w' : World) : Prop := ∃ R m d, e = .returned (.tuple #[.slice R m d, .bool (lenOK s)]) ∧ (lenOK s = false → R = none ∧ m = 0) ∧ (lenOK s = true → m = (runsM s).length ∧ Reads w' 1 R m (natCells (runsM s)) ∧ m ≤ d) ∧ Bl w w'
theorem len_bad {s : List UInt8} {w w' : World} (h : lenOK s = false) (hb : Bl w w') : LenRes s w (.returned (.tuple #[.slice none 0 0, .bool false])) w' :=
  ⟨none, 0, 0, by rw [h], fun _ => ⟨rfl, rfl⟩, fun h' => (by rw [h] at h'; cases h'), hb⟩
set_option maxRecDepth 100000 in
set_option maxHeartbeats 8000000 in
theorem lengths_any (s : List UInt8) (w : World) (hl : s.length ≤ 1048576) :
    Calls Tryz.prog 146 #[.string ⟨s.toArray⟩] w (LenRes s w) := by
  have Ht := Lib.hid (trim_any s [48, 49] w (by omega) (by decide) (by
    intro j b h
    have : ∀ b ∈ ([48, 49] : List UInt8), b.toNat < 128 := by decide
    exact this b (List.mem_of_getElem? h)))
  have hsz : (⟨s.toArray⟩ : ByteArray).size = s.length := Lib.size_mk s
  have HD := Lib.hid (show lenOK s = (!s.isEmpty && (madeOf s [48, 49] && (s.getD 0 0 == 49 && s.getD (s.length - 1) 0 == 49))) from rfl)
  go_enter Tryz.func146, Tryz.ntmps146
  by_cases h0 : s = []
  · have hemp : s.isEmpty = true := by rw [h0]; rfl
    have HB := Lib.hid (show lenOK s = false by rw [HD.out, hemp]; rfl)
    clear h0
    go_wp2_with fail
    exact bodyPost_ret (v := .tuple #[.slice none 0 0, .bool false]) (by simp [results, Tryz.results146, go_sem]) rfl (len_bad HB.out (Bl.refl _))
  · have hemp : s.isEmpty = false := by cases s with | nil => exact absurd rfl h0 | cons a t => rfl
    have hl1 : 0 < s.length := List.length_pos_iff.2 h0
    clear h0
    cases hmd : madeOf s [48, 49] with
    | false =>
      have htr : (Lib.trimS s [48, 49]).isEmpty = false := by rw [trim_made, hmd]
      have HB := Lib.hid (show lenOK s = false by rw [HD.out, hemp, hmd]; rfl)
      clear hmd
      go_wp2_with fail
      refine Ht.out.mono ?_
      rintro e w1 ⟨rfl, hb1⟩
      go_wp2_with fail
      exact bodyPost_ret (v := .tuple #[.slice none 0 0, .bool false]) (by simp [results, Tryz.results146, go_sem]) rfl (len_bad HB.out hb1)
    | true =>
      have htr : (Lib.trimS s [48, 49]).isEmpty = true := by rw [trim_made, hmd]
      have HMd := Lib.hid hmd
      obtain ⟨a, ha⟩ : ∃ a, s[0]? = some a := ⟨_, List.getElem?_eq_getElem hl1⟩
      obtain ⟨z, hz⟩ : ∃ z, s[s.length - 1]? = some z := ⟨_, List.getElem?_eq_getElem (by omega)⟩
      obtain ⟨a1, a2⟩ := bytes_at ha
      obtain ⟨z1, z2⟩ := bytes_at hz
      have hga : s.getD 0 0 = a := by rw [List.getD_eq_getElem?_getD, ha]; rfl
      have hgz : s.getD (s.length - 1) 0 = z := by rw [List.getD_eq_getElem?_getD, hz]; rfl
      have HD2 := Lib.hid (show lenOK s = (a == 49 && z == 49) by rw [HD.out, hemp, hmd, hga, hgz]; rfl)
      obtain ⟨L, hL⟩ : ∃ L, L = s.length - 1 := ⟨_, rfl⟩
      have hLI : (s.length : Int) - 1 = (L : Int) := by omega
      have hLs : (L : Int) < (s.length : Int) := by omega
      have z1' : L < (⟨s.toArray⟩ : ByteArray).size := by rw [hL]; exact z1
      have z2' : (⟨s.toArray⟩ : ByteArray)[L]'z1' = z := by subst hL; exact z2
      have HLn := Lib.hid hL
      clear hmd hga hgz hz ha z1 z2 hL HD
      cases h49 : (a == 49) with
      | false =>
        have hne : ¬ ((a.toNat : Int) = 49) := fun e => by
          have : a = 49 := UInt8.toNat_inj.1 (by have : (49 : UInt8).toNat = 49 := rfl; omega)
          rw [this] at h49; cases h49
        have hneb : ((a.toNat : Int) == 49) = false := by rw [beq_eq_false_iff_ne]; exact hne
        have HB := Lib.hid (show lenOK s = false by rw [HD2.out, h49]; rfl)
        clear h49
        go_wp2_with fail
        refine Ht.out.mono ?_
        rintro e w1 ⟨rfl, hb1⟩
        go_wp2_with fail
        exact bodyPost_ret (v := .tuple #[.slice none 0 0, .bool false]) (by simp [results, Tryz.results146, go_sem]) rfl (len_bad HB.out hb1)
      | true =>
        have ha49 : a = 49 := by simpa using h49
        cases h50 : (z == 49) with
        | false =>
          have hne : ¬ ((z.toNat : Int) = 49) := fun e => by
            have : z = 49 := UInt8.toNat_inj.1 (by have : (49 : UInt8).toNat = 49 := rfl; omega)
            rw [this] at h50; cases h50
          have hneb : ((z.toNat : Int) == 49) = false := by rw [beq_eq_false_iff_ne]; exact hne
          have HB := Lib.hid (show lenOK s = false by rw [HD2.out, h49, h50]; rfl)
          clear h49 h50
          subst ha49
          go_wp2_with fail
          refine Ht.out.mono ?_
          rintro e w1 ⟨rfl, hb1⟩
          go_wp2_with fail
          exact bodyPost_ret (v := .tuple #[.slice none 0 0, .bool false]) (by simp [results, Tryz.results146, go_sem]) rfl (len_bad HB.out hb1)
        | true =>
          have hz49 : z = 49 := by simpa using h50
          have HB := Lib.hid (show lenOK s = true by rw [HD2.out, h49, h50]; rfl)
          clear h49 h50
          subst ha49 hz49
          go_wp2_with fail
          refine Ht.out.mono ?_
          rintro e w1 ⟨rfl, hb1⟩
          have HB1 := Lib.hid hb1
          clear hb1 Ht
          go_wp2_with fail
          go_loopw [4, 28] (fun s4 s28 wr => ∃ (i : Nat) (v : Value), i ≤ s.length ∧ s28 = .int .i64 (i : Int) ∧ v = s4 ∧ Bl w1 wr ∧ Hid (wr.ownsRow w1.heap.size 3 1 v (runsP s i).length (natCells (runsP s i)))) (fun _ v _ => s.length - (RowKit.intOf v).toNat)
          case atStart => exact ⟨0, _, Nat.zero_le _, rfl, rfl, Bl.refl _, Lib.hid (World.ownsRow_nil _ _ _ _)⟩
          case round =>
            rename World => wr
            obtain ⟨i, v, hi, rfl, rfl, hbr, hown⟩ := hrel
            have HBr := Lib.hid hbr
            clear hbr
            obtain ⟨hle1, hle2⟩ := rn_len s i
            by_cases hlt : i < s.length
            · have hg : s[i]? = some s[i] := List.getElem?_eq_getElem hlt
              obtain ⟨c, hc⟩ : ∃ c, c = s[i] := ⟨_, rfl⟩
              rw [← hc] at hg
              obtain ⟨m1, m2⟩ := bytes_at hg
              have hltI : (i : Int) < (s.length : Int) := by omega
              by_cases hi0 : i = 0
              · subst hi0
                have h0n : ¬ ((0 : Int) < ((0 : Nat) : Int)) := by decide
                have HP1 := Lib.hid (show runsP s 1 = [1] from rfl)
                have hown0 : wr.ownsRow w1.heap.size 3 1 v 0 [] := hown.out
                have HOw := Lib.hid hown0
                clear hown hown0 hg hc
                go_upto_region 7 with fail
                refine wp_region_flow [(true, 0), (true, 1), (true, 2), (true, 3), (true, 4), (true, 5), (true, 6), (true, 7), (true, 8), (true, 9), (true, 10), (true, 11)] (fun _ => false) (by kernel_rfl) (by kernel_rfl) (by kernel_rfl) (by kernel_rfl) ?_
                iterate 1
                  apply Flow.mv _ rfl
                  · intro K' hK'
                    simp only [Act.put, Act.eval, List.setIfInBounds_toArray, List.set_cons_zero, List.set_cons_succ, arr_getD, List.getD_cons_zero, List.getD_cons_succ]
                    exact hK'
                iterate 1
                  apply Flow.calm2 _ _ rfl rfl
                  · intro w' hb' K' hK'
                    obtain ⟨hc', hf'⟩ := hb'.rule
                    go_simp
                    try go_ints
                    exact hK'
                  · intro K' hK'
                    simp only [Act.put, List.setIfInBounds_toArray, List.set_cons_zero, List.set_cons_succ]
                    exact hK'
                iterate 1
                  apply Flow.mv _ rfl
                  · intro K' hK'
                    simp only [Act.put, Act.eval, List.setIfInBounds_toArray, List.set_cons_zero, List.set_cons_succ, arr_getD, List.getD_cons_zero, List.getD_cons_succ]
                    exact hK'
                first
                  | (apply Flow.pass rfl (by rfl))
                  | (apply Flow.calmG _ rfl (by rfl)
                     · intro w' hb'
                       obtain ⟨hc', hf'⟩ := hb'.rule
                       go_simp
                       all_goals (try rfl))
                simp only [Act.put, List.setIfInBounds_toArray, List.set_cons_zero, List.set_cons_succ]
                try go_ints
                first
                  | (apply Flow.pass rfl (by rfl))
                  | (apply Flow.calmG _ rfl (by rfl)
                     · intro w' hb'
                       obtain ⟨hc', hf'⟩ := hb'.rule
                       go_simp
                       all_goals (try rfl))
                simp only [Act.put, List.setIfInBounds_toArray, List.set_cons_zero, List.set_cons_succ]
                try go_ints
                first
                  | (apply Flow.pass rfl (by rfl))
                  | (apply Flow.calmG _ rfl (by rfl)
                     · intro w' hb'
                       obtain ⟨hc', hf'⟩ := hb'.rule
                       go_simp
                       all_goals (try rfl))
                simp only [Act.put, List.setIfInBounds_toArray, List.set_cons_zero, List.set_cons_succ]
                try go_ints
                first
                  | (apply Flow.pass rfl (by rfl))
                  | (apply Flow.calmG _ rfl (by rfl)
                     · intro w' hb'
                       obtain ⟨hc', hf'⟩ := hb'.rule
                       go_simp
                       all_goals (try rfl))
                simp only [Act.put, List.setIfInBounds_toArray, List.set_cons_zero, List.set_cons_succ]
                try go_ints
                first
                  | (apply Flow.pass rfl (by rfl))
                  | (apply Flow.calmG _ rfl (by rfl)
                     · intro w' hb'
                       obtain ⟨hc', hf'⟩ := hb'.rule
                       go_simp
                       all_goals (try rfl))
                simp only [Act.put, List.setIfInBounds_toArray, List.set_cons_zero, List.set_cons_succ]
                try go_ints
                first
                  | (apply Flow.pass rfl (by rfl))
                  | (apply Flow.calmG _ rfl (by rfl)
                     · intro w' hb'
                       obtain ⟨hc', hf'⟩ := hb'.rule
                       go_simp
                       all_goals (try rfl))
                simp only [Act.put, List.setIfInBounds_toArray, List.set_cons_zero, List.set_cons_succ]
                try go_ints
                first
                  | (apply Flow.pass rfl (by rfl))
                  | (apply Flow.calmG _ rfl (by rfl)
                     · intro w' hb'
                       obtain ⟨hc', hf'⟩ := hb'.rule
                       go_simp
                       all_goals (try rfl))
                simp only [Act.put, List.setIfInBounds_toArray, List.set_cons_zero, List.set_cons_succ]
                try go_ints
                first
                  | (apply Flow.pass rfl (by rfl))
                  | (apply Flow.calmG _ rfl (by rfl)
                     · intro w' hb'
                       obtain ⟨hc', hf'⟩ := hb'.rule
                       go_simp
                       all_goals (try rfl))
                simp only [Act.put, List.setIfInBounds_toArray, List.set_cons_zero, List.set_cons_succ]
                try go_ints
                iterate 1
                  apply Flow.calm2 _ _ rfl rfl
                  · intro w' hb' K' hK'
                    obtain ⟨hc', hf'⟩ := hb'.rule
                    go_simp
                    try go_ints
                    exact hK'
                  · intro K' hK'
                    simp only [Act.put, List.setIfInBounds_toArray, List.set_cons_zero, List.set_cons_succ]
                    exact hK'
                refine Flow.done ?_
                have hbr2 := HBr.out.drew
                have HO2 := own_bl HOw.out (Bl.refl wr).drew
                have t2 : (0 + 1) * 8 ≤ 140737488355328 := by decide
                have t3 : 0 + 1 ≤ maxLen := by unfold maxLen; decide
                have t1 : w1.heap.size ≤ wr.drew.heap.size := hbr2.le
                go_upto_region 9 with fail
                generalize hwq : wr.drew = wq at hbr2 HO2 t1 ⊢
                clear hwq
                go_wp2_with (at_builtin; refine wpList_append_one (w1 := w1) rfl (.tmp 51) (.tmp 52) 68 rfl 3 (.int .i64 0) 8 Tryz.underlying68 info_int rfl w1.heap.size _ 0 [] rfl (.int .i64 1) rfl ?a1 ?a2 ?a3 ?a4 ?a5 ?a6 ?a7 ?a8; exact rfl; exact hbr2; exact Nat.le_refl _; exact t1; exact HO2; exact t2; exact t3; intro v' w8 hown8 hb8 hg8)
                have H9 := Lib.hid (show w8.ownsRow w1.heap.size 3 1 v' (runsP s 1).length (natCells (runsP s 1)) by rw [HP1.out]; exact hown8)
                have HB8 := Lib.hid hb8
                clear hown8 hb8 hg8
                go_wp2_with fail
                exact ⟨⟨1, v', by omega, by go_num, rfl, HB8.out, H9⟩, by simp [RowKit.intOf] <;> omega⟩
              · have hi1 : (0 : Int) < (i : Int) := by omega
                have hi1N : 0 < i := by omega
                obtain ⟨j, hj⟩ : ∃ j, j = i - 1 := ⟨_, rfl⟩
                have hjI : (i : Int) - 1 = (j : Int) := by omega
                have hjN : j < s.length := by omega
                have hgj : s[j]? = some s[j] := List.getElem?_eq_getElem (by omega)
                obtain ⟨b, hbb⟩ : ∃ b, b = s[j]'(by omega) := ⟨_, rfl⟩
                rw [← hbb] at hgj
                obtain ⟨n1, n2⟩ := bytes_at hgj
                have hP : runsP s i = (rn s i).1 ++ [(rn s i).2] := if_neg hi0
                have hP2 : runsP s (i + 1) = (rn s (i + 1)).1 ++ [(rn s (i + 1)).2] := if_neg (by omega)
                rw [hP] at hown
                obtain ⟨l, hll⟩ : ∃ l, l = (rn s i).1 := ⟨_, rfl⟩
                obtain ⟨q, hqq⟩ : ∃ q, q = (rn s i).2 := ⟨_, rfl⟩
                have hrs := rn_same (s := s) (i := i) (by omega)
                have hrn := rn_new (s := s) (i := i) (by omega)
                rw [← hll, ← hqq] at hrs hrn hown
                rw [← hll] at hle1
                rw [← hqq] at hle2
                rw [hg, show i - 1 = j from hj.symm, hgj] at hrs hrn
                have hlen : (l ++ [q]).length = l.length + 1 := by rw [List.length_append]; rfl
                rw [hlen] at hown
                obtain ⟨n, hn⟩ : ∃ n, n = l.length := ⟨_, rfl⟩
                have hnc : natCells (l ++ [q]) = natCells l ++ [.int .i64 (q : Int)] := by unfold natCells; rw [List.map_append]; rfl
                rw [hnc, ← hn] at hown
                rw [← hn] at hle1
                obtain ⟨g, cap, hv, hgB, -⟩ := own_some hown.out (by omega)
                subst hv
                have hkn : ((n : Int) + 1) - 1 = (n : Int) := by omega
                have HOw := Lib.hid hown.out; have HNl := Lib.hid hn; have HP2 := Lib.hid hP2; have HG := Lib.hid hgB
                clear hP hP2 hll hqq hown hlen hn hnc hg hgj hc hbb hj hgB
                by_cases hcb : c = b
                · have hst := hrs (by rw [hcb])
                  have HS := Lib.hid (show runsP s (i + 1) = l ++ [q + 1] by rw [HP2.out, hst])
                  subst hcb
                  have hcl : wr.cell? ⟨g, n, none⟩ = some (.int .i64 q) := own_cellAt HOw.out (by rw [List.getElem?_append_right (by rw [natCells_len, HNl.out]; omega), natCells_len, HNl.out, Nat.sub_self]; rfl)
                  have hfz := (own_blk HOw.out).2
                  have HSet := Lib.hid (show (wr.setCell ⟨g, n, none⟩ (.int .i64 ((q : Int) + 1))).ownsRow w1.heap.size 3 1 (.slice (some ⟨g, 0, none⟩) (n + 1) cap) (runsP s (i + 1)).length (natCells (runsP s (i + 1))) by
                    have h := ownsRow_set HOw.out n (.int .i64 ((q + 1 : Nat) : Int))
                    rw [HNl.out, run_last, ← HNl.out] at h
                    rw [HS.out, List.length_append, List.length_singleton, ← HNl.out]
                    unfold natCells at h ⊢
                    rw [List.map_append]
                    exact h)
                  clear hst hrs hrn
                  go_upto_region 7 with fail
                  refine wp_region_flow [(true, 0), (true, 1), (true, 2), (true, 3), (true, 4), (true, 5), (true, 6), (true, 7), (true, 8), (true, 9), (true, 10), (true, 11)] (fun _ => false) (by kernel_rfl) (by kernel_rfl) (by kernel_rfl) (by kernel_rfl) ?_
                  iterate 1
                    apply Flow.mv _ rfl
                    · intro K' hK'
                      simp only [Act.put, Act.eval, List.setIfInBounds_toArray, List.set_cons_zero, List.set_cons_succ, arr_getD, List.getD_cons_zero, List.getD_cons_succ]
                      exact hK'
                  iterate 1
                    apply Flow.calm2 _ _ rfl rfl
                    · intro w' hb' K' hK'
                      obtain ⟨hc', hf'⟩ := hb'.rule
                      go_simp
                      try go_ints
                      exact hK'
                    · intro K' hK'
                      simp only [Act.put, List.setIfInBounds_toArray, List.set_cons_zero, List.set_cons_succ]
                      exact hK'
                  iterate 1
                    apply Flow.mv _ rfl
                    · intro K' hK'
                      simp only [Act.put, Act.eval, List.setIfInBounds_toArray, List.set_cons_zero, List.set_cons_succ, arr_getD, List.getD_cons_zero, List.getD_cons_succ]
                      exact hK'
                  first
                    | (apply Flow.pass rfl (by rfl))
                    | (apply Flow.calmG _ rfl (by rfl)
                       · intro w' hb'
                         obtain ⟨hc', hf'⟩ := hb'.rule
                         go_simp
                         all_goals (try rfl))
                  simp only [Act.put, List.setIfInBounds_toArray, List.set_cons_zero, List.set_cons_succ]
                  try go_ints
                  first
                    | (apply Flow.pass rfl (by rfl))
                    | (apply Flow.calmG _ rfl (by rfl)
                       · intro w' hb'
                         obtain ⟨hc', hf'⟩ := hb'.rule
                         go_simp
                         all_goals (try rfl))
                  simp only [Act.put, List.setIfInBounds_toArray, List.set_cons_zero, List.set_cons_succ]
                  try go_ints
                  first
                    | (apply Flow.pass rfl (by rfl))
                    | (apply Flow.calmG _ rfl (by rfl)
                       · intro w' hb'
                         obtain ⟨hc', hf'⟩ := hb'.rule
                         go_simp
                         all_goals (try rfl))
                  simp only [Act.put, List.setIfInBounds_toArray, List.set_cons_zero, List.set_cons_succ]
                  try go_ints
                  first
                    | (apply Flow.pass rfl (by rfl))
                    | (apply Flow.calmG _ rfl (by rfl)
                       · intro w' hb'
                         obtain ⟨hc', hf'⟩ := hb'.rule
                         go_simp
                         all_goals (try rfl))
                  simp only [Act.put, List.setIfInBounds_toArray, List.set_cons_zero, List.set_cons_succ]
                  try go_ints
                  first
                    | (apply Flow.pass rfl (by rfl))
                    | (apply Flow.calmG _ rfl (by rfl)
                       · intro w' hb'
                         obtain ⟨hc', hf'⟩ := hb'.rule
                         go_simp
                         all_goals (try rfl))
                  simp only [Act.put, List.setIfInBounds_toArray, List.set_cons_zero, List.set_cons_succ]
                  try go_ints
                  first
                    | (apply Flow.pass rfl (by rfl))
                    | (apply Flow.calmG _ rfl (by rfl)
                       · intro w' hb'
                         obtain ⟨hc', hf'⟩ := hb'.rule
                         go_simp
                         all_goals (try rfl))
                  simp only [Act.put, List.setIfInBounds_toArray, List.set_cons_zero, List.set_cons_succ]
                  try go_ints
                  first
                    | (apply Flow.pass rfl (by rfl))
                    | (apply Flow.calmG _ rfl (by rfl)
                       · intro w' hb'
                         obtain ⟨hc', hf'⟩ := hb'.rule
                         go_simp
                         all_goals (try rfl))
                  simp only [Act.put, List.setIfInBounds_toArray, List.set_cons_zero, List.set_cons_succ]
                  try go_ints
                  first
                    | (apply Flow.pass rfl (by rfl))
                    | (apply Flow.calmG _ rfl (by rfl)
                       · intro w' hb'
                         obtain ⟨hc', hf'⟩ := hb'.rule
                         go_simp
                         all_goals (try rfl))
                  simp only [Act.put, List.setIfInBounds_toArray, List.set_cons_zero, List.set_cons_succ]
                  try go_ints
                  iterate 1
                    apply Flow.calm2 _ _ rfl rfl
                    · intro w' hb' K' hK'
                      obtain ⟨hc', hf'⟩ := hb'.rule
                      go_simp
                      try go_ints
                      exact hK'
                    · intro K' hK'
                      simp only [Act.put, List.setIfInBounds_toArray, List.set_cons_zero, List.set_cons_succ]
                      exact hK'
                  refine Flow.done ?_
                  go_wp2_with fail
                  exact ⟨⟨i + 1, _, by omega, by go_num, rfl, HBr.out.drew.setCell HG.out _, HSet⟩, by simp [RowKit.intOf] <;> omega⟩
                · have hst := hrn (fun e => hcb (Option.some.inj e))
                  have HS := Lib.hid (show runsP s (i + 1) = (l ++ [q]) ++ [1] by rw [HP2.out, hst])
                  have hbne : ((c.toNat : Int) == (b.toNat : Int)) = false := by rw [beq_eq_false_iff_ne]; exact fun e => hcb (UInt8.toNat_inj.1 (by omega))
                  have hbn2 : ¬ ((c.toNat : Int) = (b.toNat : Int)) := fun e => hcb (UInt8.toNat_inj.1 (by omega))
                  have t1 : w1.heap.size ≤ wr.heap.size := HBr.out.le
                  have t2 : (n + 1 + 1) * 8 ≤ 140737488355328 := by omega
                  have t3 : n + 1 + 1 ≤ maxLen := by unfold maxLen; omega
                  clear hst hrs hrn hcb
                  go_upto_region 7 with fail
                  refine wp_region_flow [(true, 0), (true, 1), (true, 2), (true, 3), (true, 4), (true, 5), (true, 6), (true, 7), (true, 8), (true, 9), (true, 10), (true, 11)] (fun _ => false) (by kernel_rfl) (by kernel_rfl) (by kernel_rfl) (by kernel_rfl) ?_
                  iterate 1
                    apply Flow.mv _ rfl
                    · intro K' hK'
                      simp only [Act.put, Act.eval, List.setIfInBounds_toArray, List.set_cons_zero, List.set_cons_succ, arr_getD, List.getD_cons_zero, List.getD_cons_succ]
                      exact hK'
                  iterate 1
                    apply Flow.calm2 _ _ rfl rfl
                    · intro w' hb' K' hK'
                      obtain ⟨hc', hf'⟩ := hb'.rule
                      go_simp
                      try go_ints
                      exact hK'
                    · intro K' hK'
                      simp only [Act.put, List.setIfInBounds_toArray, List.set_cons_zero, List.set_cons_succ]
                      exact hK'
                  iterate 1
                    apply Flow.mv _ rfl
                    · intro K' hK'
                      simp only [Act.put, Act.eval, List.setIfInBounds_toArray, List.set_cons_zero, List.set_cons_succ, arr_getD, List.getD_cons_zero, List.getD_cons_succ]
                      exact hK'
                  first
                    | (apply Flow.pass rfl (by rfl))
                    | (apply Flow.calmG _ rfl (by rfl)
                       · intro w' hb'
                         obtain ⟨hc', hf'⟩ := hb'.rule
                         go_simp
                         all_goals (try rfl))
                  simp only [Act.put, List.setIfInBounds_toArray, List.set_cons_zero, List.set_cons_succ]
                  try go_ints
                  first
                    | (apply Flow.pass rfl (by rfl))
                    | (apply Flow.calmG _ rfl (by rfl)
                       · intro w' hb'
                         obtain ⟨hc', hf'⟩ := hb'.rule
                         go_simp
                         all_goals (try rfl))
                  simp only [Act.put, List.setIfInBounds_toArray, List.set_cons_zero, List.set_cons_succ]
                  try go_ints
                  first
                    | (apply Flow.pass rfl (by rfl))
                    | (apply Flow.calmG _ rfl (by rfl)
                       · intro w' hb'
                         obtain ⟨hc', hf'⟩ := hb'.rule
                         go_simp
                         all_goals (try rfl))
                  simp only [Act.put, List.setIfInBounds_toArray, List.set_cons_zero, List.set_cons_succ]
                  try go_ints
                  first
                    | (apply Flow.pass rfl (by rfl))
                    | (apply Flow.calmG _ rfl (by rfl)
                       · intro w' hb'
                         obtain ⟨hc', hf'⟩ := hb'.rule
                         go_simp
                         all_goals (try rfl))
                  simp only [Act.put, List.setIfInBounds_toArray, List.set_cons_zero, List.set_cons_succ]
                  try go_ints
                  first
                    | (apply Flow.pass rfl (by rfl))
                    | (apply Flow.calmG _ rfl (by rfl)
                       · intro w' hb'
                         obtain ⟨hc', hf'⟩ := hb'.rule
                         go_simp
                         all_goals (try rfl))
                  simp only [Act.put, List.setIfInBounds_toArray, List.set_cons_zero, List.set_cons_succ]
                  try go_ints
                  first
                    | (apply Flow.pass rfl (by rfl))
                    | (apply Flow.calmG _ rfl (by rfl)
                       · intro w' hb'
                         obtain ⟨hc', hf'⟩ := hb'.rule
                         go_simp
                         all_goals (try rfl))
                  simp only [Act.put, List.setIfInBounds_toArray, List.set_cons_zero, List.set_cons_succ]
                  try go_ints
                  first
                    | (apply Flow.pass rfl (by rfl))
                    | (apply Flow.calmG _ rfl (by rfl)
                       · intro w' hb'
                         obtain ⟨hc', hf'⟩ := hb'.rule
                         go_simp
                         all_goals (try rfl))
                  simp only [Act.put, List.setIfInBounds_toArray, List.set_cons_zero, List.set_cons_succ]
                  try go_ints
                  first
                    | (apply Flow.pass rfl (by rfl))
                    | (apply Flow.calmG _ rfl (by rfl)
                       · intro w' hb'
                         obtain ⟨hc', hf'⟩ := hb'.rule
                         go_simp
                         all_goals (try rfl))
                  simp only [Act.put, List.setIfInBounds_toArray, List.set_cons_zero, List.set_cons_succ]
                  try go_ints
                  iterate 1
                    apply Flow.calm2 _ _ rfl rfl
                    · intro w' hb' K' hK'
                      obtain ⟨hc', hf'⟩ := hb'.rule
                      go_simp
                      try go_ints
                      exact hK'
                    · intro K' hK'
                      simp only [Act.put, List.setIfInBounds_toArray, List.set_cons_zero, List.set_cons_succ]
                      exact hK'
                  refine Flow.done ?_
                  have hbr2 := HBr.out.drew
                  have t1' : w1.heap.size ≤ wr.drew.heap.size := hbr2.le
                  have HO2 := own_bl HOw.out (Bl.refl wr).drew
                  go_upto_region 9 with fail
                  generalize hwq : wr.drew = wq at hbr2 HO2 t1' ⊢
                  clear hwq
                  go_wp2_with (at_builtin; refine wpList_append_one (w1 := w1) rfl (.tmp 51) (.tmp 52) 68 rfl 3 (.int .i64 0) 8 Tryz.underlying68 info_int rfl w1.heap.size _ (n + 1) (natCells l ++ [.int .i64 q]) rfl (.int .i64 1) rfl ?e1 ?e2 ?e3 ?e4 ?e5 ?e6 ?e7 ?e8; exact rfl; exact hbr2; exact Nat.le_refl _; exact t1'; exact HO2; exact t2; exact t3; intro v' w8 hown8 hb8 hg8)
                  have H9 := Lib.hid (show w8.ownsRow w1.heap.size 3 1 v' (runsP s (i + 1)).length (natCells (runsP s (i + 1))) by
                    rw [HS.out, List.length_append, List.length_append, List.length_singleton, List.length_singleton, ← HNl.out]
                    unfold natCells at hown8 ⊢
                    rw [List.map_append, List.map_append]
                    exact hown8)
                  have HB8 := Lib.hid hb8
                  clear hown8 hb8 hg8 HO2
                  go_wp2_with fail
                  exact ⟨⟨i + 1, v', by omega, by go_num, rfl, HB8.out, H9⟩, by simp [RowKit.intOf] <;> omega⟩
            · obtain rfl : i = s.length := by omega
              have hP : runsP s s.length = runsM s := if_neg (by omega)
              rw [hP] at hown
              obtain ⟨A2, c2, e2, hr2⟩ := own_reads hown.out
              have hcap := own_cap (show wr.ownsRow w1.heap.size 3 1 (.slice A2 (runsM s).length c2) (runsM s).length (natCells (runsM s)) from e2 ▸ hown.out)
              subst e2
              have HRr := Lib.hid hr2; have HCap := Lib.hid hcap
              clear hr2 hown hcap hP
              go_wp2_with fail
              refine bodyPost_ret (v := .tuple #[.slice A2 (runsM s).length c2, .bool true]) (by simp [results, Tryz.results146, go_sem]) rfl ⟨A2, _, c2, by rw [HB.out], fun h => (by rw [HB.out] at h; cases h), fun _ => ⟨rfl, HRr.out, HCap.out⟩, HB1.out.trans HBr.out⟩

end Go.Proofs.YtkipcobpnecmhaaGreatDoor
