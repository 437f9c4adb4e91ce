/- Code 39 in plain lists: the text that is read. -/
import Derived.Test.YtkipcobpnecmhaaGreatDoorMClaimBarCodes0
import Derived.Test.YtkipcobpnecmhaaGreatDoorMClaimBarCodes31
import Derived.Test.YtkipcobpnecmhaaGreatDoorMClaimBarCodes18
import Derived.Test.YtkipcobpnecmhaaGreatDoorMClaimBarCodes10
import Derived.Test.YtkipcobpnecmhaaGreatDoorMClaimBarCodes1
import Derived.Test.YtkipcobpnecmhaaGreatDoorMClaimBarCodes12
import Derived.Test.YtkipcobpnecmhaaGreatDoorMClaimBarCodes11
import Derived.Test.YtkipcobpnecmhaaGreatDoorMClaimBarCodes2
import Derived.Test.YtkipcobpnecmhaaGreatDoorMClaimBarCodes3
import Derived.Test.YtkipcobpnecmhaaGreatDoorMClaimBarCodes9
import Derived.Test.YtkipcobpnecmhaaGreatDoorMClaimBarCodes8
import Derived.Test.YtkipcobpnecmhaaGreatDoorMClaimBarCodes19
import Derived.Shelf.Small.Strs
import Derived.Shelf.Strings.Count
import Derived.Shelf.Strings.Search3
import Derived.Shelf.Strings.Split
import Derived.Lib.Split
import Derived.Lib.CountLaws
import Derived.Lib.IndexMore
import Derived.Lib.Strings

namespace Go.Proofs
open Go.Shelf
def Tryz.laysIxB_ren : Go.Shelf.Ren := ⟨fun | 137 => 31 | 217 => 55 | 266 => 100 | n => n, fun | 9 => 9 | 5 => 5 | 3 => 3 | n => n, fun | n => n⟩
theorem Tryz.laysIxB : Go.Proofs.Lays.n137 Tryz.prog Tryz.laysIxB_ren := {
  mixed := by kernel_rfl
  f137 := Tryz.func31.trans (congrArg some (by kernel_rfl))
  f217 := Tryz.func55.trans (congrArg some (by kernel_rfl))
  f266 := Tryz.func100.trans (congrArg some (by kernel_rfl))
  t3 := Tryz.underlying3
  a3 := Tryz.isAgg3
  z3 := Tryz.sizeOf3
  v3 := Tryz.zeroValue3
  t5 := Tryz.underlying5
  a5 := Tryz.isAgg5
  z5 := Tryz.sizeOf5
  v5 := Tryz.zeroValue5
  t9 := Tryz.underlying9
  a9 := Tryz.isAgg9
  z9 := Tryz.sizeOf9
  v9 := Tryz.zeroValue9 }

def Tryz.laysCnt_ren : Go.Shelf.Ren := ⟨fun | 138 => 147 | 195 => 162 | 218 => 163 | 143 => 149 | 219 => 164 | 217 => 55 | 225 => 156 | 224 => 155 | 267 => 166 | 266 => 100 | 314 => 167 | n => n, fun | 9 => 9 | 3 => 3 | 4 => 4 | 5 => 5 | 0 => 0 | 46 => 41 | 146 => 127 | 51 => 126 | n => n, fun | 1 => 2 | n => n⟩
theorem Tryz.laysCnt : Go.Proofs.Lays.n138 Tryz.prog Tryz.laysCnt_ren := {
  mixed := by kernel_rfl
  f138 := Tryz.func147.trans (congrArg some (by kernel_rfl))
  f143 := Tryz.func149.trans (congrArg some (by kernel_rfl))
  f195 := Tryz.func162.trans (congrArg some (by kernel_rfl))
  f217 := Tryz.func55.trans (congrArg some (by kernel_rfl))
  f218 := Tryz.func163.trans (congrArg some (by kernel_rfl))
  f219 := Tryz.func164.trans (congrArg some (by kernel_rfl))
  f224 := Tryz.func155.trans (congrArg some (by kernel_rfl))
  f225 := Tryz.func156.trans (congrArg some (by kernel_rfl))
  f266 := Tryz.func100.trans (congrArg some (by kernel_rfl))
  f267 := Tryz.func166.trans (congrArg some (by kernel_rfl))
  f314 := Tryz.func167.trans (congrArg some (by kernel_rfl))
  t0 := Tryz.underlying0
  a0 := Tryz.isAgg0
  z0 := Tryz.sizeOf0
  v0 := Tryz.zeroValue0
  t3 := Tryz.underlying3
  a3 := Tryz.isAgg3
  z3 := Tryz.sizeOf3
  v3 := Tryz.zeroValue3
  t4 := Tryz.underlying4
  a4 := Tryz.isAgg4
  z4 := Tryz.sizeOf4
  v4 := Tryz.zeroValue4
  t5 := Tryz.underlying5
  a5 := Tryz.isAgg5
  z5 := Tryz.sizeOf5
  v5 := Tryz.zeroValue5
  t9 := Tryz.underlying9
  a9 := Tryz.isAgg9
  z9 := Tryz.sizeOf9
  v9 := Tryz.zeroValue9
  t46 := Tryz.underlying41
  a46 := Tryz.isAgg41
  z46 := Tryz.sizeOf41
  v46 := Tryz.zeroValue41
  t51 := Tryz.underlying126
  a51 := Tryz.isAgg126
  z51 := Tryz.sizeOf126
  v51 := Tryz.zeroValue126
  t146 := Tryz.underlying127
  a146 := Tryz.isAgg127
  z146 := Tryz.sizeOf127
  v146 := Tryz.zeroValue127
  g1 := by kernel_rfl }

def Tryz.laysCon_ren : Go.Shelf.Ren := ⟨fun | 144 => 124 | 143 => 149 | 219 => 164 | 217 => 55 | 225 => 156 | 224 => 155 | 267 => 166 | 266 => 100 | 314 => 167 | n => n, fun | 9 => 9 | 4 => 4 | 3 => 3 | 5 => 5 | 46 => 41 | 146 => 127 | 51 => 126 | n => n, fun | 1 => 2 | n => n⟩
theorem Tryz.laysCon : Go.Proofs.Lays.n144 Tryz.prog Tryz.laysCon_ren := {
  mixed := by kernel_rfl
  f143 := Tryz.func149.trans (congrArg some (by kernel_rfl))
  f144 := Tryz.func124.trans (congrArg some (by kernel_rfl))
  f217 := Tryz.func55.trans (congrArg some (by kernel_rfl))
  f219 := Tryz.func164.trans (congrArg some (by kernel_rfl))
  f224 := Tryz.func155.trans (congrArg some (by kernel_rfl))
  f225 := Tryz.func156.trans (congrArg some (by kernel_rfl))
  f266 := Tryz.func100.trans (congrArg some (by kernel_rfl))
  f267 := Tryz.func166.trans (congrArg some (by kernel_rfl))
  f314 := Tryz.func167.trans (congrArg some (by kernel_rfl))
  t3 := Tryz.underlying3
  a3 := Tryz.isAgg3
  z3 := Tryz.sizeOf3
  v3 := Tryz.zeroValue3
  t4 := Tryz.underlying4
  a4 := Tryz.isAgg4
  z4 := Tryz.sizeOf4
  v4 := Tryz.zeroValue4
  t5 := Tryz.underlying5
  a5 := Tryz.isAgg5
  z5 := Tryz.sizeOf5
  v5 := Tryz.zeroValue5
  t9 := Tryz.underlying9
  a9 := Tryz.isAgg9
  z9 := Tryz.sizeOf9
  v9 := Tryz.zeroValue9
  t46 := Tryz.underlying41
  a46 := Tryz.isAgg41
  z46 := Tryz.sizeOf41
  v46 := Tryz.zeroValue41
  t51 := Tryz.underlying126
  a51 := Tryz.isAgg126
  z51 := Tryz.sizeOf126
  v51 := Tryz.zeroValue126
  t146 := Tryz.underlying127
  a146 := Tryz.isAgg127
  z146 := Tryz.sizeOf127
  v146 := Tryz.zeroValue127
  g1 := by kernel_rfl }

end Go.Proofs
namespace Go.Proofs.YtkipcobpnecmhaaGreatDoor
open Go.RowKit Go.Shelf

theorem u8_round (c : UInt8) : ((c.toNat : Int)).toNat.toUInt8 = c := by
  rw [Int.toNat_natCast]
  exact UInt8.ofNat_toNat
theorem ixB_any (l : List UInt8) (c : UInt8) (w : World) : Calls Tryz.prog 31 #[.string ⟨l.toArray⟩, .int .u8 (c.toNat : Int)] w fun e w' => e = .returned (.int .i64 (Lib.indexByte l c)) ∧ w = w' := by
  have h := Any.strings_IndexByte Tryz.laysIxB ⟨l.toArray⟩ (c.toNat : Int) w
  refine Calls.mono (R := fun e w' => e = .returned (.int .i64 (Lib.indexByte l ((c.toNat : Int)).toNat.toUInt8)) ∧ w' = w) h ?_
  rintro e w' ⟨rfl, rfl⟩
  rw [u8_round]
  exact ⟨rfl, rfl⟩
theorem cntB_any (l : List UInt8) (c : UInt8) (w : World) : Calls Tryz.prog 147 #[.string ⟨l.toArray⟩, .string ⟨#[c]⟩] w fun e w' => e = .returned (.int .i64 (Lib.countByte l c)) ∧ w = w' := by
  have h := Any.strings_Count_one Tryz.laysCnt ⟨l.toArray⟩ c w
  refine Calls.mono (R := fun e w' => e = .returned (.int .i64 (Lib.countByte l c)) ∧ w' = w) h ?_
  rintro e w' ⟨rfl, rfl⟩
  exact ⟨rfl, rfl⟩
theorem conB_any (l : List UInt8) (c : UInt8) (w : World) : Calls Tryz.prog 124 #[.string ⟨l.toArray⟩, .string ⟨#[c]⟩] w fun e w' => e = .returned (.bool (decide (0 ≤ Lib.indexByte l c))) ∧ w = w' := by
  have h := Any.strings_Contains_one Tryz.laysCon ⟨l.toArray⟩ c w
  refine Calls.mono (R := fun e w' => e = .returned (.bool (decide (0 ≤ Lib.indexByte l c))) ∧ w' = w) h ?_
  rintro e w' ⟨rfl, rfl⟩
  exact ⟨rfl, rfl⟩
set_option maxRecDepth 100000 in
set_option maxHeartbeats 2000000 in
theorem pieces_any (w : World) (hT : SpOk w) : Calls Tryz.prog 30 #[] w (TxtRes pieceC w) := by
  have H := Lib.hid (fields_any pieceS pieceC (by decide) (by decide +kernel) (by decide +kernel) w hT)
  unfold pieceS at H
  go_enter Tryz.func30, Tryz.ntmps30
  go_wp2_with fail
  refine H.out.mono ?_
  rintro e w1 ⟨g, rfl, hr, hb⟩
  go_wp2_with fail
  go_ret
  exact ⟨g, rfl, hr, hb⟩
set_option maxRecDepth 100000 in
set_option maxHeartbeats 2000000 in
theorem wide39_any (w : World) (hT : SpOk w) : Calls Tryz.prog 123 #[] w (TxtRes pieceC w) := by
  have H := Lib.hid (fields_any pieceS pieceC (by decide) (by decide +kernel) (by decide +kernel) w hT)
  unfold pieceS at H
  go_enter Tryz.func123, Tryz.ntmps123
  go_wp2_with fail
  refine H.out.mono ?_
  rintro e w1 ⟨g, rfl, hr, hb⟩
  go_wp2_with fail
  go_ret
  exact ⟨g, rfl, hr, hb⟩

end Go.Proofs.YtkipcobpnecmhaaGreatDoor


/-! Check letters of Code 39. -/
namespace Go.Proofs.YtkipcobpnecmhaaGreatDoor
open Go.RowKit Go.Shelf

def lets43 : List UInt8 := [48, 49, 50, 51, 52, 53, 54, 55, 56, 57, 65, 66, 67, 68, 69, 70, 71, 72, 73, 74, 75, 76, 77, 78, 79, 80, 81, 82, 83, 84, 85, 86, 87, 88, 89, 90, 45, 46, 32, 36, 47, 43, 37]
theorem ixB_ge (l : List UInt8) (c : UInt8) : -1 ≤ Lib.indexByte l c := Lib.indexByte_ge l c
theorem ixB_mem (l : List UInt8) (c : UInt8) : 0 ≤ Lib.indexByte l c ↔ c ∈ l := by
  constructor
  · intro h
    obtain ⟨o, ho⟩ : ∃ o : Nat, Lib.indexByte l c = o := ⟨(Lib.indexByte l c).toNat, by omega⟩
    exact List.mem_of_getElem? (Lib.indexByte_some ho).1
  · intro h
    have h1 := ixB_ge l c
    by_cases hn : Lib.indexByte l c = -1
    · obtain ⟨k, hk, rfl⟩ := List.getElem_of_mem h
      exact absurd (List.getElem?_eq_getElem hk) (Lib.indexByte_none hn k)
    · omega
theorem ixB_lt {l : List UInt8} {c : UInt8} (h : 0 ≤ Lib.indexByte l c) : Lib.indexByte l c < l.length ∧ l[(Lib.indexByte l c).toNat]? = some c := by
  obtain ⟨o, ho⟩ : ∃ o : Nat, Lib.indexByte l c = o := ⟨(Lib.indexByte l c).toNat, by omega⟩
  have h1 := (Lib.indexByte_some ho).1
  have h2 := (List.getElem?_eq_some_iff.1 h1).1
  rw [ho]
  exact ⟨by omega, by simpa using h1⟩
def isLet (c : UInt8) : Bool := lets43.contains c
def lettersOk (l : List UInt8) : Bool := l.all isLet
/-- The number of a letter. -/
def numL (c : UInt8) : Nat := (Lib.indexByte lets43 c).toNat
def sumL (l : List UInt8) : Nat → Nat
  | 0 => 0
  | i + 1 => sumL l i + numL (l.getD i 0)
def chkL (l : List UInt8) : List UInt8 := [lets44.getD (sumL l l.length % 43) 0]
def letErr (l : List UInt8) : Int := if l = [] then 9 else if 40 < l.length then 4 else if lettersOk l = true then 0 else 2
def letVal (l : List UInt8) : List UInt8 := if letErr l = 0 then chkL l else []
theorem isLet_ix {c : UInt8} : isLet c = true ↔ 0 ≤ Lib.indexByte lets43 c := by
  rw [ixB_mem]
  unfold isLet
  simp
theorem isLet_num {c : UInt8} (h : isLet c = true) : Lib.indexByte lets43 c = (numL c : Int) ∧ numL c < 43 ∧ lets43[numL c]? = some c := by
  have h1 := isLet_ix.1 h
  obtain ⟨h2, h3⟩ := ixB_lt h1
  unfold numL
  refine ⟨by omega, ?_, h3⟩
  have : (lets43.length : Int) = 43 := rfl
  omega
set_option maxRecDepth 100000 in
theorem ix44_all : ∀ c ∈ lets43, Lib.indexByte lets44 c = Lib.indexByte lets43 c := by decide +kernel
theorem ix44 {c : UInt8} (h : isLet c = true) : Lib.indexByte lets44 c = (numL c : Int) := by
  rw [ix44_all c (by unfold isLet at h; simpa using h), (isLet_num h).1]
theorem sumL_le {l : List UInt8} (h : lettersOk l = true) : ∀ i, i ≤ l.length → sumL l i ≤ 43 * i
  | 0, _ => Nat.le_refl _
  | i + 1, hi => by
    have ih := sumL_le h i (by omega)
    have hg : l[i]? = some l[i] := List.getElem?_eq_getElem (by omega)
    have hk : isLet l[i] = true := List.all_eq_true.1 h _ (List.mem_of_getElem? hg)
    have h2 := (isLet_num hk).2.1
    show sumL l i + numL (l.getD i 0) ≤ _
    rw [List.getD_eq_getElem?_getD, hg]
    show sumL l i + numL l[i] ≤ _
    omega
theorem ok_take {l : List UInt8} {i : Nat} {c : UInt8} (h : lettersOk (l.take i) = true) (hg : l[i]? = some c) : lettersOk (l.take (i + 1)) = isLet c := by
  rw [List.take_add_one, hg]
  unfold lettersOk at h ⊢
  rw [List.all_append, h]
  simp
theorem sumL_succ {l : List UInt8} {i : Nat} {c : UInt8} (hg : l[i]? = some c) : sumL l (i + 1) = sumL l i + numL c := by
  show sumL l i + numL (l.getD i 0) = _
  rw [List.getD_eq_getElem?_getD, hg]
  rfl
theorem sumL_small {l : List UInt8} : ∀ i, i ≤ l.length → lettersOk (l.take i) = true → sumL l i ≤ 43 * i
  | 0, _, _ => Nat.le_refl _
  | i + 1, hi, h => by
    have hg : l[i]? = some l[i] := List.getElem?_eq_getElem (by omega)
    have h1 : lettersOk (l.take i) = true := by
      unfold lettersOk at h ⊢
      rw [List.all_eq_true] at h ⊢
      exact fun x hx => h x (by rw [List.take_add_one]; exact List.mem_append_left _ hx)
    have ih := sumL_small i (by omega) h1
    rw [ok_take h1 hg] at h
    have h2 := (isLet_num h).2.1
    rw [sumL_succ hg]
    omega
theorem letOf (l : List UInt8) (r n : Nat) (h : r < n) (hn : n ≤ l.length) : (⟨l.toArray⟩ : ByteArray).extract r (r + 1) = ⟨[l.getD r 0].toArray⟩ := by
  rw [slice_ab, show r + 1 - r = 1 by omega]
  congr 2
  rw [List.take_one, List.head?_drop, List.getD_eq_getElem?_getD, List.getElem?_eq_getElem (by omega)]
  rfl
theorem let43 {r : Nat} (h : r < 43) : lets43.getD r 0 = lets44.getD r 0 := by
  have : ∀ r < 43, lets43.getD r 0 = lets44.getD r 0 := by decide +kernel
  exact this r h
set_option maxRecDepth 100000 in
set_option maxHeartbeats 4000000 in
theorem checkLet_any (l : List UInt8) (w : World) (hl : l.length ≤ 9223372036854775807) :
    Calls Tryz.prog 29 #[.string ⟨l.toArray⟩] w fun e w' => e = .returned (.tuple #[.string ⟨(letVal l).toArray⟩, .int .i64 (letErr l)]) ∧ Bl w w' := by
  have hsz : (⟨l.toArray⟩ : ByteArray).size = l.length := Lib.size_mk l
  go_enter Tryz.func29, Tryz.ntmps29
  by_cases h0 : l = []
  · have hE : letErr l = 9 := by unfold letErr; rw [if_pos h0]
    have HV := Lib.hid (show letVal l = [] by unfold letVal; rw [hE]; rfl)
    have HE := Lib.hid hE
    have hemp : l.isEmpty = true := by rw [h0]; rfl
    clear h0 hE
    go_wp2_with fail
    exact bodyPost_ret (v := .tuple #[.string ⟨#[]⟩, .int .i64 9]) (by simp [results, Tryz.results29, go_sem]) rfl ⟨by rw [HV.out, HE.out], Bl.refl _⟩
  · have hemp : l.isEmpty = false := by cases l with | nil => exact absurd rfl h0 | cons a t => rfl
    by_cases h40 : 40 < l.length
    · have hE : letErr l = 4 := by unfold letErr; rw [if_neg h0, if_pos h40]
      have HV := Lib.hid (show letVal l = [] by unfold letVal; rw [hE]; rfl)
      have HE := Lib.hid hE
      have h40I : (40 : Int) < (l.length : Int) := by omega
      clear h0 hE h40
      go_wp2_with fail
      exact bodyPost_ret (v := .tuple #[.string ⟨#[]⟩, .int .i64 4]) (by simp [results, Tryz.results29, go_sem]) rfl ⟨by rw [HV.out, HE.out], Bl.refl _⟩
    · have hE : letErr l = if lettersOk l = true then 0 else 2 := by unfold letErr; rw [if_neg h0, if_neg h40]
      have h40I : (l.length : Int) ≤ 40 := by omega
      have HEE := Lib.hid hE; have H40 := Lib.hid h40
      clear h0 hE h40
      go_wp2_with fail
      go_loopw [4, 16] (fun s4 s16 wr => ∃ i : Nat, i ≤ l.length ∧ s16 = .int .i64 (i : Int) ∧ s4 = .int .i64 (sumL l i : Int) ∧ lettersOk (l.take i) = true ∧ w = wr) (fun _ v _ => l.length - (RowKit.intOf v).toNat)
      case atStart => exact ⟨0, Nat.zero_le _, rfl, rfl, rfl, rfl⟩
      case round =>
        rename World => wr
        obtain ⟨i, hi, rfl, rfl, hok, hw⟩ := hrel
        subst hw
        by_cases hlt : i < l.length
        · have hg : l[i]? = some l[i] := List.getElem?_eq_getElem hlt
          obtain ⟨c, hc⟩ : ∃ c, c = l[i] := ⟨_, rfl⟩
          rw [← hc] at hg
          obtain ⟨m1, m2⟩ := bytes_at hg
          have hltI : (i : Int) < (l.length : Int) := by omega
          have hok2 := ok_take hok hg
          have hss := sumL_succ hg
          have hsm := sumL_small i hi hok
          have hix := ixB_any lets43 c w
          unfold lets43 at hix
          cases hil : isLet c with
          | true =>
            obtain ⟨hn1, hn2, -⟩ := isLet_num hil
            unfold lets43 at hn1
            rw [hn1] at hix
            obtain ⟨n, hn⟩ : ∃ n, n = numL c := ⟨_, rfl⟩
            obtain ⟨s, hs⟩ : ∃ s, s = sumL l i := ⟨_, rfl⟩
            rw [← hn] at hix hn2 hss
            rw [← hs] at hss hsm ⊢
            have Hix := Lib.hid hix; have HSs := Lib.hid hss
            have HOk := Lib.hid (show lettersOk (l.take (i + 1)) = true by rw [hok2, hil])
            clear hix hss hn1 hn hs hok2 hil hg hc hok
            go_wp2_with fail
            refine Hix.out.mono ?_
            rintro e w' ⟨rfl, hw⟩
            subst hw
            go_wp2_with fail
            exact ⟨⟨i + 1, by omega, by go_num, by rw [HSs.out]; simp, HOk.out, by trivial⟩, by simp [RowKit.intOf] <;> omega⟩
          | false =>
            have hn1 : Lib.indexByte lets43 c = -1 := by
              have h1 := ixB_ge lets43 c
              have h2 : ¬ 0 ≤ Lib.indexByte lets43 c := fun h => by rw [isLet_ix.2 h] at hil; cases hil
              omega
            unfold lets43 at hn1
            rw [hn1] at hix
            have Hix := Lib.hid hix
            have hbad : lettersOk l = false := by
              cases hx : lettersOk l with
              | false => rfl
              | true =>
                have := List.all_eq_true.1 hx c (List.mem_of_getElem? hg)
                rw [this] at hil
                cases hil
            have hE : letErr l = 2 := HEE.out.trans (by rw [hbad]; rfl)
            have HV := Lib.hid (show letVal l = [] by unfold letVal; rw [hE]; rfl)
            have HE := Lib.hid hE
            clear hix hss hn1 hok2 hil hg hc hok hbad hE
            go_wp2_with fail
            refine Hix.out.mono ?_
            rintro e w' ⟨rfl, hw⟩
            subst hw
            go_wp2_with fail
            exact bodyPost_ret (v := .tuple #[.string ⟨#[]⟩, .int .i64 2]) (by simp [results, Tryz.results29, go_sem]) rfl ⟨by rw [HV.out, HE.out], Bl.refl _⟩
        · obtain rfl : i = l.length := by omega
          rw [List.take_length] at hok
          have hsm := sumL_le hok l.length (Nat.le_refl _)
          have hE : letErr l = 0 := HEE.out.trans (by rw [hok]; rfl)
          have HV := Lib.hid (show letVal l = chkL l by unfold letVal; rw [hE]; rfl)
          have HE := Lib.hid hE
          obtain ⟨s, hs⟩ : ∃ s, s = sumL l l.length := ⟨_, rfl⟩
          obtain ⟨r, hr⟩ : ∃ r, r = s % 43 := ⟨_, rfl⟩
          have hrm : (s : Int) % 43 = (r : Int) := by omega
          have hr43 : r < 43 := by omega
          have hex := letOf lets43 r 43 hr43 (by decide)
          rw [let43 hr43] at hex
          obtain ⟨X, hX⟩ : ∃ X, X = [lets44.getD r 0] := ⟨_, rfl⟩
          rw [← hX] at hex
          unfold lets43 at hex
          have HX := Lib.hid (show chkL l = X by unfold chkL; rw [← hs, ← hr, hX])
          rw [← hs] at hsm ⊢
          clear hE hok hs hr hX
          go_wp2_with fail
          exact bodyPost_ret (v := .tuple #[.string ⟨X.toArray⟩, .int .i64 0]) (by simp [results, Tryz.results29, go_sem]) rfl ⟨by rw [HV.out, HE.out, HX.out], Bl.refl _⟩
set_option maxRecDepth 100000 in
set_option maxHeartbeats 4000000 in
theorem checkLetterOf_any (l : List UInt8) (w : World) (h40 : l.length ≤ 1000) (hok : lettersOk l = true) :
    Calls Tryz.prog 87 #[.string ⟨l.toArray⟩] w fun e w' => e = .returned (.string ⟨(chkL l).toArray⟩) ∧ w = w' := by
  have hsz : (⟨l.toArray⟩ : ByteArray).size = l.length := Lib.size_mk l
  have HO := Lib.hid hok
  clear hok
  go_enter Tryz.func87, Tryz.ntmps87
  go_wp2_with fail
  go_loopw [3, 7] (fun s4 s16 wr => ∃ i : Nat, i ≤ l.length ∧ s16 = .int .i64 (i : Int) ∧ s4 = .int .i64 (sumL l i : Int) ∧ w = wr) (fun _ v _ => l.length - (RowKit.intOf v).toNat)
  case atStart => exact ⟨0, Nat.zero_le _, rfl, rfl, rfl⟩
  case round =>
    rename World => wr
    obtain ⟨i, hi, rfl, rfl, hw⟩ := hrel
    subst hw
    by_cases hlt : i < l.length
    · have hg : l[i]? = some l[i] := List.getElem?_eq_getElem hlt
      obtain ⟨c, hc⟩ : ∃ c, c = l[i] := ⟨_, rfl⟩
      rw [← hc] at hg
      obtain ⟨m1, m2⟩ := bytes_at hg
      have hltI : (i : Int) < (l.length : Int) := by omega
      have hss := sumL_succ hg
      have hsm := sumL_le HO.out i hi
      have hil : isLet c = true := List.all_eq_true.1 HO.out c (List.mem_of_getElem? hg)
      have hix := ixB_any lets44 c w
      rw [ix44 hil] at hix
      unfold lets44 at hix
      have hn2 := (isLet_num hil).2.1
      obtain ⟨n, hn⟩ : ∃ n, n = numL c := ⟨_, rfl⟩
      obtain ⟨s, hs⟩ : ∃ s, s = sumL l i := ⟨_, rfl⟩
      rw [← hn] at hix hn2 hss
      rw [← hs] at hss hsm ⊢
      have Hix := Lib.hid hix; have HSs := Lib.hid hss
      clear hix hss hn hs hil hg hc
      go_wp2_with fail
      refine Hix.out.mono ?_
      rintro e w' ⟨rfl, hw⟩
      subst hw
      go_wp2_with fail
      exact ⟨⟨i + 1, by omega, by go_num, by rw [HSs.out]; simp, by trivial⟩, by simp [RowKit.intOf] <;> omega⟩
    · obtain rfl : i = l.length := by omega
      have hsm := sumL_le HO.out l.length (Nat.le_refl _)
      obtain ⟨s, hs⟩ : ∃ s, s = sumL l l.length := ⟨_, rfl⟩
      obtain ⟨r, hr⟩ : ∃ r, r = s % 43 := ⟨_, rfl⟩
      have hrm : (s : Int) % 43 = (r : Int) := by omega
      have hr43 : r < 43 := by omega
      have hex := letOf lets44 r 44 (by omega) (by decide)
      obtain ⟨X, hX⟩ : ∃ X, X = [lets44.getD r 0] := ⟨_, rfl⟩
      rw [← hX] at hex
      unfold lets44 at hex
      have HX := Lib.hid (show chkL l = X by unfold chkL; rw [← hs, ← hr, hX])
      rw [← hs] at hsm ⊢
      clear hs hr hX
      go_wp2_with fail
      go_ret
      exact ⟨by rw [HX.out]; rfl, by trivial⟩

end Go.Proofs.YtkipcobpnecmhaaGreatDoor


/-! bar.Code39: the modules of a text. -/
namespace Go.Proofs.YtkipcobpnecmhaaGreatDoor
open Go.RowKit Go.Shelf Go.Sort

theorem modFrom_append : ∀ (a b : List UInt8) (i : Nat), modFrom i (a ++ b) = modFrom i a ++ modFrom (i + a.length) b
  | [], b, i => rfl
  | c :: a, b, i => by
    show List.replicate (runOf c) (bitAt i) ++ modFrom (i + 1) (a ++ b) = (List.replicate (runOf c) (bitAt i) ++ modFrom (i + 1) a) ++ modFrom (i + (a.length + 1)) b
    rw [modFrom_append a b (i + 1), List.append_assoc, show i + 1 + a.length = i + (a.length + 1) by omega]
theorem modFrom_take {p : List UInt8} {j : Nat} {c : UInt8} (h : p[j]? = some c) : modFrom 0 (p.take (j + 1)) = modFrom 0 (p.take j) ++ List.replicate (runOf c) (bitAt j) := by
  have hlt := (List.getElem?_eq_some_iff.1 h).1
  rw [List.take_add_one, h, modFrom_append, List.length_take, Nat.min_eq_left (by omega), Nat.zero_add]
  show _ ++ (List.replicate (runOf c) (bitAt j) ++ []) = _
  rw [List.append_nil]
theorem modFrom_len : ∀ (p : List UInt8) (i : Nat), (modFrom i p).length ≤ 3 * p.length
  | [], _ => Nat.le_refl _
  | c :: p, i => by
    have ih := modFrom_len p (i + 1)
    show (List.replicate (runOf c) (bitAt i) ++ modFrom (i + 1) p).length ≤ _
    rw [List.length_append, List.length_replicate, List.length_cons]
    have : runOf c ≤ 3 := by unfold runOf; split <;> decide
    omega
theorem pieceC_at (k : Nat) (h : k < 44) : pieceC[k]? = some (pieceK k) := by
  unfold pieceK
  rw [List.getD_eq_getElem?_getD, List.getElem?_eq_getElem (show k < pieceC.length from h)]
  rfl
set_option maxRecDepth 100000 in
theorem piece_sign : ∀ k < 44, ∀ i < 9, (pieceK k).getD i 0 = 119 ∨ (pieceK k).getD i 0 = 110 := by decide +kernel
theorem piece_at {k i : Nat} (hk : k < 44) (hi : i < 9) : ∃ c, (pieceK k)[i]? = some c ∧ (c = 119 ∨ c = 110) := by
  have h9 := (modK_all k hk).2.2.2
  have hg : (pieceK k)[i]? = some (pieceK k)[i] := List.getElem?_eq_getElem (by omega)
  refine ⟨_, hg, ?_⟩
  have := piece_sign k hk i hi
  rw [List.getD_eq_getElem?_getD, hg] at this
  exact this
theorem ten0 : (⟨#[49, 48]⟩ : ByteArray).extract 0 1 = ⟨#[49]⟩ := rfl
theorem ten1 : (⟨#[49, 48]⟩ : ByteArray).extract 1 2 = ⟨#[48]⟩ := rfl
end Go.Proofs.YtkipcobpnecmhaaGreatDoor


/-! bar.lengths: the runs of modules. -/
namespace Go.Proofs.YtkipcobpnecmhaaGreatDoor
open Go.RowKit Go.Shelf

/-- The runs of the first i signs: those that are done, and the last one's length. -/
def rn (s : List UInt8) : Nat → List Nat × Nat
  | 0 => ([], 0)
  | i + 1 => if i = 0 then ([], 1) else if s[i]? = s[i - 1]? then ((rn s i).1, (rn s i).2 + 1) else ((rn s i).1 ++ [(rn s i).2], 1)
def runsM (s : List UInt8) : List Nat := (rn s s.length).1 ++ [(rn s s.length).2]
/-- The runs of the first i signs. -/
def runsP (s : List UInt8) (i : Nat) : List Nat := if i = 0 then [] else (rn s i).1 ++ [(rn s i).2]
def lenOK (s : List UInt8) : Bool := !s.isEmpty && (madeOf s [48, 49] && (s.getD 0 0 == 49 && s.getD (s.length - 1) 0 == 49))
theorem rn_len (s : List UInt8) : ∀ i, (rn s i).1.length ≤ i ∧ (rn s i).2 ≤ i
  | 0 => ⟨Nat.le_refl _, Nat.le_refl _⟩
  | i + 1 => by
    obtain ⟨h1, h2⟩ := rn_len s i
    unfold rn
    split
    · exact ⟨Nat.zero_le _, by omega⟩
    · split
      · exact ⟨by show (rn s i).1.length ≤ i + 1; omega, by show (rn s i).2 + 1 ≤ i + 1; omega⟩
      · refine ⟨?_, by show 1 ≤ i + 1; omega⟩
        show ((rn s i).1 ++ [(rn s i).2]).length ≤ i + 1
        rw [List.length_append, List.length_singleton]
        omega
theorem rn_one (s : List UInt8) : rn s 1 = ([], 1) := rfl
theorem rn_same {s : List UInt8} {i : Nat} (h0 : 1 ≤ i) (h : s[i]? = s[i - 1]?) : rn s (i + 1) = ((rn s i).1, (rn s i).2 + 1) := by
  show (if i = 0 then _ else if s[i]? = s[i - 1]? then _ else _) = _
  rw [if_neg (by omega), if_pos h]
theorem rn_new {s : List UInt8} {i : Nat} (h0 : 1 ≤ i) (h : s[i]? ≠ s[i - 1]?) : rn s (i + 1) = ((rn s i).1 ++ [(rn s i).2], 1) := by
  show (if i = 0 then _ else if s[i]? = s[i - 1]? then _ else _) = _
  rw [if_neg (by omega), if_neg h]
theorem bit_two {a b : UInt8} (ha : a = 48 ∨ a = 49) (hb : b = 48 ∨ b = 49) (n : Nat) (h : b = bitAt n) (hne : a ≠ b) : a = bitAt (n + 1) := by
  have h2 := bitAt_ne n
  have h3 : bitAt (n + 1) = 48 ∨ bitAt (n + 1) = 49 := by unfold bitAt; split; exact .inr rfl; exact .inl rfl
  rw [h] at hne hb
  rcases ha with rfl | rfl <;> rcases hb with hb | hb <;> rcases h3 with h3 | h3 <;> rw [hb] at hne h2 <;> rw [h3] at h2 ⊢ <;> first | rfl | exact absurd rfl hne | exact absurd rfl h2
theorem expand_last (n c : Nat) (l : List Nat) (h : l.length = n) : expand 0 (l ++ [c]) = expand 0 l ++ List.replicate c (bitAt n) := by
  rw [expand_append, h, Nat.zero_add]
  show _ ++ (List.replicate c (bitAt n) ++ []) = _
  rw [List.append_nil]
theorem rn_spec {s : List UInt8} (hm : madeOf s [48, 49] = true) (h49 : s[0]? = some 49) : ∀ i, 1 ≤ i → i ≤ s.length → expand 0 ((rn s i).1 ++ [(rn s i).2]) = s.take i ∧ (∀ n ∈ (rn s i).1, 1 ≤ n) ∧ 1 ≤ (rn s i).2 ∧ s[i - 1]? = some (bitAt (rn s i).1.length)
  | 0, h, _ => absurd h (by decide)
  | i + 1, _, hi => by
    by_cases h0 : i = 0
    · subst h0
      rw [rn_one]
      refine ⟨?_, fun n h => (by cases h), Nat.le_refl _, h49⟩
      cases s with
      | nil => cases h49
      | cons a t =>
        obtain rfl := Option.some.inj h49
        rfl
    · obtain ⟨e1, e2, e3, e4⟩ := rn_spec hm h49 i (by omega) (by omega)
      have hg : s[i]? = some s[i] := List.getElem?_eq_getElem (by omega)
      have bits : ∀ (j : Nat) (b : UInt8), s[j]? = some b → b = 48 ∨ b = 49 := fun j b h => by
        have := List.all_eq_true.1 hm b (List.mem_of_getElem? h)
        simpa using this
      by_cases hs : s[i]? = s[i - 1]?
      · rw [rn_same (by omega) hs]
        refine ⟨?_, e2, by show 1 ≤ (rn s i).2 + 1; omega, by rw [Nat.add_sub_cancel, hs]; exact e4⟩
        show expand 0 ((rn s i).1 ++ [(rn s i).2 + 1]) = _
        rw [expand_last _ _ _ rfl, List.replicate_succ', ← List.append_assoc, ← expand_last _ _ _ rfl, e1, List.take_add_one, hs, e4]
        rfl
      · rw [rn_new (by omega) hs]
        have hb := bits i _ hg
        have hb2 := bits (i - 1) _ e4
        have hx : s[i] = bitAt ((rn s i).1.length + 1) := bit_two hb hb2 _ rfl (fun e => hs (by rw [hg, e4, e]))
        refine ⟨?_, fun n hn => ?_, Nat.le_refl _, ?_⟩
        · show expand 0 (((rn s i).1 ++ [(rn s i).2]) ++ [1]) = _
          rw [expand_last ((rn s i).1.length + 1) _ _ (by rw [List.length_append]; rfl), e1, List.take_add_one, hg, hx]
          rfl
        · rcases List.mem_append.1 hn with hn | hn
          · exact e2 n hn
          · rw [List.mem_singleton.1 hn]; exact e3
        · rw [Nat.add_sub_cancel, hg, hx]
          show _ = some (bitAt ((rn s i).1 ++ [(rn s i).2]).length)
          rw [List.length_append]
          rfl
theorem lenOK_iff {s : List UInt8} (h : lenOK s = true) : s ≠ [] ∧ madeOf s [48, 49] = true ∧ s[0]? = some 49 ∧ s[s.length - 1]? = some 49 := by
  unfold lenOK at h
  simp only [Bool.and_eq_true, Bool.not_eq_true', beq_iff_eq] at h
  obtain ⟨h1, h2, h3, h4⟩ := h
  have hne : s ≠ [] := fun e => by rw [e] at h1; cases h1
  have hl : 0 < s.length := List.length_pos_iff.2 hne
  refine ⟨hne, h2, ?_, ?_⟩
  · rw [List.getD_eq_getElem?_getD, List.getElem?_eq_getElem hl] at h3
    rw [List.getElem?_eq_getElem hl]
    exact congrArg some h3
  · rw [List.getD_eq_getElem?_getD, List.getElem?_eq_getElem (by omega)] at h4
    rw [List.getElem?_eq_getElem (by omega)]
    exact congrArg some h4
theorem runsM_spec {s : List UInt8} (h : lenOK s = true) : expand 0 (runsM s) = s ∧ ∀ n ∈ runsM s, 1 ≤ n := by
  obtain ⟨h1, h2, h3, -⟩ := lenOK_iff h
  have hl : 0 < s.length := List.length_pos_iff.2 h1
  obtain ⟨e1, e2, e3, -⟩ := rn_spec h2 h3 s.length hl (Nat.le_refl _)
  refine ⟨by unfold runsM; rw [e1, List.take_length], fun n hn => ?_⟩
  unfold runsM at hn
  rcases List.mem_append.1 hn with hn | hn
  · exact e2 n hn
  · rw [List.mem_singleton.1 hn]; exact e3
/-- Modules that are not so have no code. -/
theorem decM_bad {s : List UInt8} (hm : madeOf s [48, 49] = true) (h : lenOK s = false) : decM s = none := by
  cases hd : decM s with
  | none => rfl
  | some ks =>
    exfalso
    have hj := join_decM hd
    have hlt := decM_lt hd
    obtain ⟨h1, h2⟩ := (decM_iff _ _).1 hd
    have hne := decM_ne hd
    have hkl : 0 < ks.length := List.length_pos_iff.2 hne
    obtain ⟨k0, hk0⟩ : ∃ k, ks[0]? = some k := ⟨_, List.getElem?_eq_getElem hkl⟩
    obtain ⟨kn, hkn⟩ : ∃ k, ks[ks.length - 1]? = some k := ⟨_, List.getElem?_eq_getElem (by omega)⟩
    obtain ⟨-, l0, g0⟩ := (gR_iff _ _ _).1 (h2 _ _ hk0)
    obtain ⟨-, ln, gn⟩ := (gR_iff _ _ _).1 (h2 _ _ hkn)
    have f0 : s.getD 0 0 = 49 := by
      have := (modK_all k0 l0).2.1
      rw [← g0, List.getD_eq_getElem?_getD, List.getElem?_take_of_lt (by decide), List.getElem?_drop] at this
      rw [List.getD_eq_getElem?_getD]
      exact this
    have fn : s.getD (s.length - 1) 0 = 49 := by
      have := (modK_all kn ln).2.2.1
      rw [← gn, List.getD_eq_getElem?_getD, List.getElem?_take_of_lt (by decide), List.getElem?_drop] at this
      rw [List.getD_eq_getElem?_getD, show s.length - 1 = 16 * (ks.length - 1) + 14 by omega]
      exact this
    have hemp : s.isEmpty = false := by
      cases s with
      | nil => simp at h1; omega
      | cons a t => rfl
    unfold lenOK at h
    rw [hemp, hm, f0, fn] at h
    cases h
def LenRes (s : List UInt8) (w : World) (e : Ending) (w' : World) : Prop := ∃ R m d, e = .returned (.tuple #[.slice R m d, .bool (lenOK s)]) ∧ (lenOK s = false → R = none ∧ m = 0) ∧ (lenOK s = true → m = (runsM s).length ∧ Reads w' 1 R m (natCells (runsM s)) ∧ m ≤ d) ∧ Bl w w'
theorem len_bad {s : List UInt8} {w w' : World} (h : lenOK s = false) (hb : Bl w w') : LenRes s w (.returned (.tuple #[.slice none 0 0, .bool false])) w' :=
  ⟨none, 0, 0, by rw [h], fun _ => ⟨rfl, rfl⟩, fun h' => (by rw [h] at h'; cases h'), hb⟩
set_option maxRecDepth 100000 in
set_option maxHeartbeats 8000000 in
theorem lengths_any (s : List UInt8) (w : World) (hl : s.length ≤ 1048576) :
    Calls Tryz.prog 146 #[.string ⟨s.toArray⟩] w (LenRes s w) := by
  have Ht := Lib.hid (trim_any s [48, 49] w (by omega) (by decide) (by
    intro j b h
    have : ∀ b ∈ ([48, 49] : List UInt8), b.toNat < 128 := by decide
    exact this b (List.mem_of_getElem? h)))
  have hsz : (⟨s.toArray⟩ : ByteArray).size = s.length := Lib.size_mk s
  have HD := Lib.hid (show lenOK s = (!s.isEmpty && (madeOf s [48, 49] && (s.getD 0 0 == 49 && s.getD (s.length - 1) 0 == 49))) from rfl)
  go_enter Tryz.func146, Tryz.ntmps146
  by_cases h0 : s = []
  · have hemp : s.isEmpty = true := by rw [h0]; rfl
    have HB := Lib.hid (show lenOK s = false by rw [HD.out, hemp]; rfl)
    clear h0
    go_wp2_with fail
    exact bodyPost_ret (v := .tuple #[.slice none 0 0, .bool false]) (by simp [results, Tryz.results146, go_sem]) rfl (len_bad HB.out (Bl.refl _))
  · have hemp : s.isEmpty = false := by cases s with | nil => exact absurd rfl h0 | cons a t => rfl
    have hl1 : 0 < s.length := List.length_pos_iff.2 h0
    clear h0
    cases hmd : madeOf s [48, 49] with
    | false =>
      have htr : (Lib.trimS s [48, 49]).isEmpty = false := by rw [trim_made, hmd]
      have HB := Lib.hid (show lenOK s = false by rw [HD.out, hemp, hmd]; rfl)
      clear hmd
      go_wp2_with fail
      refine Ht.out.mono ?_
      rintro e w1 ⟨rfl, hb1⟩
      go_wp2_with fail
      exact bodyPost_ret (v := .tuple #[.slice none 0 0, .bool false]) (by simp [results, Tryz.results146, go_sem]) rfl (len_bad HB.out hb1)
    | true =>
      have htr : (Lib.trimS s [48, 49]).isEmpty = true := by rw [trim_made, hmd]
      have HMd := Lib.hid hmd
      obtain ⟨a, ha⟩ : ∃ a, s[0]? = some a := ⟨_, List.getElem?_eq_getElem hl1⟩
      obtain ⟨z, hz⟩ : ∃ z, s[s.length - 1]? = some z := ⟨_, List.getElem?_eq_getElem (by omega)⟩
      obtain ⟨a1, a2⟩ := bytes_at ha
      obtain ⟨z1, z2⟩ := bytes_at hz
      have hga : s.getD 0 0 = a := by rw [List.getD_eq_getElem?_getD, ha]; rfl
      have hgz : s.getD (s.length - 1) 0 = z := by rw [List.getD_eq_getElem?_getD, hz]; rfl
      have HD2 := Lib.hid (show lenOK s = (a == 49 && z == 49) by rw [HD.out, hemp, hmd, hga, hgz]; rfl)
      obtain ⟨L, hL⟩ : ∃ L, L = s.length - 1 := ⟨_, rfl⟩
      have hLI : (s.length : Int) - 1 = (L : Int) := by omega
      have hLs : (L : Int) < (s.length : Int) := by omega
      have z1' : L < (⟨s.toArray⟩ : ByteArray).size := by rw [hL]; exact z1
      have z2' : (⟨s.toArray⟩ : ByteArray)[L]'z1' = z := by subst hL; exact z2
      have HLn := Lib.hid hL
      clear hmd hga hgz hz ha z1 z2 hL HD
      cases h49 : (a == 49) with
      | false =>
        have hne : ¬ ((a.toNat : Int) = 49) := fun e => by
          have : a = 49 := UInt8.toNat_inj.1 (by have : (49 : UInt8).toNat = 49 := rfl; omega)
          rw [this] at h49; cases h49
        have hneb : ((a.toNat : Int) == 49) = false := by rw [beq_eq_false_iff_ne]; exact hne
        have HB := Lib.hid (show lenOK s = false by rw [HD2.out, h49]; rfl)
        clear h49
        go_wp2_with fail
        refine Ht.out.mono ?_
        rintro e w1 ⟨rfl, hb1⟩
        go_wp2_with fail
        exact bodyPost_ret (v := .tuple #[.slice none 0 0, .bool false]) (by simp [results, Tryz.results146, go_sem]) rfl (len_bad HB.out hb1)
      | true =>
        have ha49 : a = 49 := by simpa using h49
        cases h50 : (z == 49) with
        | false =>
          have hne : ¬ ((z.toNat : Int) = 49) := fun e => by
            have : z = 49 := UInt8.toNat_inj.1 (by have : (49 : UInt8).toNat = 49 := rfl; omega)
            rw [this] at h50; cases h50
          have hneb : ((z.toNat : Int) == 49) = false := by rw [beq_eq_false_iff_ne]; exact hne
          have HB := Lib.hid (show lenOK s = false by rw [HD2.out, h49, h50]; rfl)
          clear h49 h50
          subst ha49
          go_wp2_with fail
          refine Ht.out.mono ?_
          rintro e w1 ⟨rfl, hb1⟩
          go_wp2_with fail
          exact bodyPost_ret (v := .tuple #[.slice none 0 0, .bool false]) (by simp [results, Tryz.results146, go_sem]) rfl (len_bad HB.out hb1)
        | true =>
          have hz49 : z = 49 := by simpa using h50
          have HB := Lib.hid (show lenOK s = true by rw [HD2.out, h49, h50]; rfl)
          clear h49 h50
          subst ha49 hz49
          go_wp2_with fail
          refine Ht.out.mono ?_
          rintro e w1 ⟨rfl, hb1⟩
          have HB1 := Lib.hid hb1
          clear hb1 Ht
          go_wp2_with fail
          go_loopw [4, 28] (fun s4 s28 wr => ∃ (i : Nat) (v : Value), i ≤ s.length ∧ s28 = .int .i64 (i : Int) ∧ v = s4 ∧ Bl w1 wr ∧ Hid (wr.ownsRow w1.heap.size 3 1 v (runsP s i).length (natCells (runsP s i)))) (fun _ v _ => s.length - (RowKit.intOf v).toNat)
          case atStart => exact ⟨0, _, Nat.zero_le _, rfl, rfl, Bl.refl _, Lib.hid (World.ownsRow_nil _ _ _ _)⟩
          case round =>
            rename World => wr
            obtain ⟨i, v, hi, rfl, rfl, hbr, hown⟩ := hrel
            have HBr := Lib.hid hbr
            clear hbr
            obtain ⟨hle1, hle2⟩ := rn_len s i
            by_cases hlt : i < s.length
            · have hg : s[i]? = some s[i] := List.getElem?_eq_getElem hlt
              obtain ⟨c, hc⟩ : ∃ c, c = s[i] := ⟨_, rfl⟩
              rw [← hc] at hg
              obtain ⟨m1, m2⟩ := bytes_at hg
              have hltI : (i : Int) < (s.length : Int) := by omega
              by_cases hi0 : i = 0
              · subst hi0
                have h0n : ¬ ((0 : Int) < ((0 : Nat) : Int)) := by decide
                have HP1 := Lib.hid (show runsP s 1 = [1] from rfl)
                have hown0 : wr.ownsRow w1.heap.size 3 1 v 0 [] := hown.out
                have HOw := Lib.hid hown0
                clear hown hown0 hg hc
                go_upto_region 7 with fail
                refine wp_region_flow [(true, 0), (true, 1), (true, 2), (true, 3), (true, 4), (true, 5), (true, 6), (true, 7), (true, 8), (true, 9), (true, 10), (true, 11)] (fun _ => false) (by kernel_rfl) (by kernel_rfl) (by kernel_rfl) (by kernel_rfl) ?_
                iterate 1
                  apply Flow.mv _ rfl
                  · intro K' hK'
                    simp only [Act.put, Act.eval, List.setIfInBounds_toArray, List.set_cons_zero, List.set_cons_succ, arr_getD, List.getD_cons_zero, List.getD_cons_succ]
                    exact hK'
                iterate 1
                  apply Flow.calm2 _ _ rfl rfl
                  · intro w' hb' K' hK'
                    obtain ⟨hc', hf'⟩ := hb'.rule
                    go_simp
                    try go_ints
                    exact hK'
                  · intro K' hK'
                    simp only [Act.put, List.setIfInBounds_toArray, List.set_cons_zero, List.set_cons_succ]
                    exact hK'
                iterate 1
                  apply Flow.mv _ rfl
                  · intro K' hK'
                    simp only [Act.put, Act.eval, List.setIfInBounds_toArray, List.set_cons_zero, List.set_cons_succ, arr_getD, List.getD_cons_zero, List.getD_cons_succ]
                    exact hK'
                first
                  | (apply Flow.pass rfl (by rfl))
                  | (apply Flow.calmG _ rfl (by rfl)
                     · intro w' hb'
                       obtain ⟨hc', hf'⟩ := hb'.rule
                       go_simp
                       all_goals (try rfl))
                simp only [Act.put, List.setIfInBounds_toArray, List.set_cons_zero, List.set_cons_succ]
                try go_ints
                first
                  | (apply Flow.pass rfl (by rfl))
                  | (apply Flow.calmG _ rfl (by rfl)
                     · intro w' hb'
                       obtain ⟨hc', hf'⟩ := hb'.rule
                       go_simp
                       all_goals (try rfl))
                simp only [Act.put, List.setIfInBounds_toArray, List.set_cons_zero, List.set_cons_succ]
                try go_ints
                first
                  | (apply Flow.pass rfl (by rfl))
                  | (apply Flow.calmG _ rfl (by rfl)
                     · intro w' hb'
                       obtain ⟨hc', hf'⟩ := hb'.rule
                       go_simp
                       all_goals (try rfl))
                simp only [Act.put, List.setIfInBounds_toArray, List.set_cons_zero, List.set_cons_succ]
                try go_ints
                first
                  | (apply Flow.pass rfl (by rfl))
                  | (apply Flow.calmG _ rfl (by rfl)
                     · intro w' hb'
                       obtain ⟨hc', hf'⟩ := hb'.rule
                       go_simp
                       all_goals (try rfl))
                simp only [Act.put, List.setIfInBounds_toArray, List.set_cons_zero, List.set_cons_succ]
                try go_ints
                first
                  | (apply Flow.pass rfl (by rfl))
                  | (apply Flow.calmG _ rfl (by rfl)
                     · intro w' hb'
                       obtain ⟨hc', hf'⟩ := hb'.rule
                       go_simp
                       all_goals (try rfl))
                simp only [Act.put, List.setIfInBounds_toArray, List.set_cons_zero, List.set_cons_succ]
                try go_ints
                first
                  | (apply Flow.pass rfl (by rfl))
                  | (apply Flow.calmG _ rfl (by rfl)
                     · intro w' hb'
                       obtain ⟨hc', hf'⟩ := hb'.rule
                       go_simp
                       all_goals (try rfl))
                simp only [Act.put, List.setIfInBounds_toArray, List.set_cons_zero, List.set_cons_succ]
                try go_ints
                first
                  | (apply Flow.pass rfl (by rfl))
                  | (apply Flow.calmG _ rfl (by rfl)
                     · intro w' hb'
                       obtain ⟨hc', hf'⟩ := hb'.rule
                       go_simp
                       all_goals (try rfl))
                simp only [Act.put, List.setIfInBounds_toArray, List.set_cons_zero, List.set_cons_succ]
                try go_ints
                first
                  | (apply Flow.pass rfl (by rfl))
                  | (apply Flow.calmG _ rfl (by rfl)
                     · intro w' hb'
                       obtain ⟨hc', hf'⟩ := hb'.rule
                       go_simp
                       all_goals (try rfl))
                simp only [Act.put, List.setIfInBounds_toArray, List.set_cons_zero, List.set_cons_succ]
                try go_ints
                iterate 1
                  apply Flow.calm2 _ _ rfl rfl
                  · intro w' hb' K' hK'
                    obtain ⟨hc', hf'⟩ := hb'.rule
                    go_simp
                    try go_ints
                    exact hK'
                  · intro K' hK'
                    simp only [Act.put, List.setIfInBounds_toArray, List.set_cons_zero, List.set_cons_succ]
                    exact hK'
                refine Flow.done ?_
                have hbr2 := HBr.out.drew
                have HO2 := own_bl HOw.out (Bl.refl wr).drew
                have t2 : (0 + 1) * 8 ≤ 140737488355328 := by decide
                have t3 : 0 + 1 ≤ maxLen := by unfold maxLen; decide
                have t1 : w1.heap.size ≤ wr.drew.heap.size := hbr2.le
                go_upto_region 9 with fail
                generalize hwq : wr.drew = wq at hbr2 HO2 t1 ⊢
                clear hwq
                go_wp2_with (at_builtin; refine wpList_append_one (w1 := w1) rfl (.tmp 51) (.tmp 52) 68 rfl 3 (.int .i64 0) 8 Tryz.underlying68 info_int rfl w1.heap.size _ 0 [] rfl (.int .i64 1) rfl ?a1 ?a2 ?a3 ?a4 ?a5 ?a6 ?a7 ?a8; exact rfl; exact hbr2; exact Nat.le_refl _; exact t1; exact HO2; exact t2; exact t3; intro v' w8 hown8 hb8 hg8)
                have H9 := Lib.hid (show w8.ownsRow w1.heap.size 3 1 v' (runsP s 1).length (natCells (runsP s 1)) by rw [HP1.out]; exact hown8)
                have HB8 := Lib.hid hb8
                clear hown8 hb8 hg8
                go_wp2_with fail
                exact ⟨⟨1, v', by omega, by go_num, rfl, HB8.out, H9⟩, by simp [RowKit.intOf] <;> omega⟩
              · have hi1 : (0 : Int) < (i : Int) := by omega
                have hi1N : 0 < i := by omega
                obtain ⟨j, hj⟩ : ∃ j, j = i - 1 := ⟨_, rfl⟩
                have hjI : (i : Int) - 1 = (j : Int) := by omega
                have hjN : j < s.length := by omega
                have hgj : s[j]? = some s[j] := List.getElem?_eq_getElem (by omega)
                obtain ⟨b, hbb⟩ : ∃ b, b = s[j]'(by omega) := ⟨_, rfl⟩
                rw [← hbb] at hgj
                obtain ⟨n1, n2⟩ := bytes_at hgj
                have hP : runsP s i = (rn s i).1 ++ [(rn s i).2] := if_neg hi0
                have hP2 : runsP s (i + 1) = (rn s (i + 1)).1 ++ [(rn s (i + 1)).2] := if_neg (by omega)
                rw [hP] at hown
                obtain ⟨l, hll⟩ : ∃ l, l = (rn s i).1 := ⟨_, rfl⟩
                obtain ⟨q, hqq⟩ : ∃ q, q = (rn s i).2 := ⟨_, rfl⟩
                have hrs := rn_same (s := s) (i := i) (by omega)
                have hrn := rn_new (s := s) (i := i) (by omega)
                rw [← hll, ← hqq] at hrs hrn hown
                rw [← hll] at hle1
                rw [← hqq] at hle2
                rw [hg, show i - 1 = j from hj.symm, hgj] at hrs hrn
                have hlen : (l ++ [q]).length = l.length + 1 := by rw [List.length_append]; rfl
                rw [hlen] at hown
                obtain ⟨n, hn⟩ : ∃ n, n = l.length := ⟨_, rfl⟩
                have hnc : natCells (l ++ [q]) = natCells l ++ [.int .i64 (q : Int)] := by unfold natCells; rw [List.map_append]; rfl
                rw [hnc, ← hn] at hown
                rw [← hn] at hle1
                obtain ⟨g, cap, hv, hgB, -⟩ := own_some hown.out (by omega)
                subst hv
                have hkn : ((n : Int) + 1) - 1 = (n : Int) := by omega
                have HOw := Lib.hid hown.out; have HNl := Lib.hid hn; have HP2 := Lib.hid hP2; have HG := Lib.hid hgB
                clear hP hP2 hll hqq hown hlen hn hnc hg hgj hc hbb hj hgB
                by_cases hcb : c = b
                · have hst := hrs (by rw [hcb])
                  have HS := Lib.hid (show runsP s (i + 1) = l ++ [q + 1] by rw [HP2.out, hst])
                  subst hcb
                  have hcl : wr.cell? ⟨g, n, none⟩ = some (.int .i64 q) := own_cellAt HOw.out (by rw [List.getElem?_append_right (by rw [natCells_len, HNl.out]; omega), natCells_len, HNl.out, Nat.sub_self]; rfl)
                  have hfz := (own_blk HOw.out).2
                  have HSet := Lib.hid (show (wr.setCell ⟨g, n, none⟩ (.int .i64 ((q : Int) + 1))).ownsRow w1.heap.size 3 1 (.slice (some ⟨g, 0, none⟩) (n + 1) cap) (runsP s (i + 1)).length (natCells (runsP s (i + 1))) by
                    have h := ownsRow_set HOw.out n (.int .i64 ((q + 1 : Nat) : Int))
                    rw [HNl.out, run_last, ← HNl.out] at h
                    rw [HS.out, List.length_append, List.length_singleton, ← HNl.out]
                    unfold natCells at h ⊢
                    rw [List.map_append]
                    exact h)
                  clear hst hrs hrn
                  go_upto_region 7 with fail
                  refine wp_region_flow [(true, 0), (true, 1), (true, 2), (true, 3), (true, 4), (true, 5), (true, 6), (true, 7), (true, 8), (true, 9), (true, 10), (true, 11)] (fun _ => false) (by kernel_rfl) (by kernel_rfl) (by kernel_rfl) (by kernel_rfl) ?_
                  iterate 1
                    apply Flow.mv _ rfl
                    · intro K' hK'
                      simp only [Act.put, Act.eval, List.setIfInBounds_toArray, List.set_cons_zero, List.set_cons_succ, arr_getD, List.getD_cons_zero, List.getD_cons_succ]
                      exact hK'
                  iterate 1
                    apply Flow.calm2 _ _ rfl rfl
                    · intro w' hb' K' hK'
                      obtain ⟨hc', hf'⟩ := hb'.rule
                      go_simp
                      try go_ints
                      exact hK'
                    · intro K' hK'
                      simp only [Act.put, List.setIfInBounds_toArray, List.set_cons_zero, List.set_cons_succ]
                      exact hK'
                  iterate 1
                    apply Flow.mv _ rfl
                    · intro K' hK'
                      simp only [Act.put, Act.eval, List.setIfInBounds_toArray, List.set_cons_zero, List.set_cons_succ, arr_getD, List.getD_cons_zero, List.getD_cons_succ]
                      exact hK'
                  first
                    | (apply Flow.pass rfl (by rfl))
                    | (apply Flow.calmG _ rfl (by rfl)
                       · intro w' hb'
                         obtain ⟨hc', hf'⟩ := hb'.rule
                         go_simp
                         all_goals (try rfl))
                  simp only [Act.put, List.setIfInBounds_toArray, List.set_cons_zero, List.set_cons_succ]
                  try go_ints
                  first
                    | (apply Flow.pass rfl (by rfl))
                    | (apply Flow.calmG _ rfl (by rfl)
                       · intro w' hb'
                         obtain ⟨hc', hf'⟩ := hb'.rule
                         go_simp
                         all_goals (try rfl))
                  simp only [Act.put, List.setIfInBounds_toArray, List.set_cons_zero, List.set_cons_succ]
                  try go_ints
                  first
                    | (apply Flow.pass rfl (by rfl))
                    | (apply Flow.calmG _ rfl (by rfl)
                       · intro w' hb'
                         obtain ⟨hc', hf'⟩ := hb'.rule
                         go_simp
                         all_goals (try rfl))
                  simp only [Act.put, List.setIfInBounds_toArray, List.set_cons_zero, List.set_cons_succ]
                  try go_ints
                  first
                    | (apply Flow.pass rfl (by rfl))
                    | (apply Flow.calmG _ rfl (by rfl)
                       · intro w' hb'
                         obtain ⟨hc', hf'⟩ := hb'.rule
                         go_simp
                         all_goals (try rfl))
                  simp only [Act.put, List.setIfInBounds_toArray, List.set_cons_zero, List.set_cons_succ]
                  try go_ints
                  first
                    | (apply Flow.pass rfl (by rfl))
                    | (apply Flow.calmG _ rfl (by rfl)
                       · intro w' hb'
                         obtain ⟨hc', hf'⟩ := hb'.rule
                         go_simp
                         all_goals (try rfl))
                  simp only [Act.put, List.setIfInBounds_toArray, List.set_cons_zero, List.set_cons_succ]
                  try go_ints
                  first
                    | (apply Flow.pass rfl (by rfl))
                    | (apply Flow.calmG _ rfl (by rfl)
                       · intro w' hb'
                         obtain ⟨hc', hf'⟩ := hb'.rule
                         go_simp
                         all_goals (try rfl))
                  simp only [Act.put, List.setIfInBounds_toArray, List.set_cons_zero, List.set_cons_succ]
                  try go_ints
                  first
                    | (apply Flow.pass rfl (by rfl))
                    | (apply Flow.calmG _ rfl (by rfl)
                       · intro w' hb'
                         obtain ⟨hc', hf'⟩ := hb'.rule
                         go_simp
                         all_goals (try rfl))
                  simp only [Act.put, List.setIfInBounds_toArray, List.set_cons_zero, List.set_cons_succ]
                  try go_ints
                  first
                    | (apply Flow.pass rfl (by rfl))
                    | (apply Flow.calmG _ rfl (by rfl)
                       · intro w' hb'
                         obtain ⟨hc', hf'⟩ := hb'.rule
                         go_simp
                         all_goals (try rfl))
                  simp only [Act.put, List.setIfInBounds_toArray, List.set_cons_zero, List.set_cons_succ]
                  try go_ints
                  iterate 1
                    apply Flow.calm2 _ _ rfl rfl
                    · intro w' hb' K' hK'
                      obtain ⟨hc', hf'⟩ := hb'.rule
                      go_simp
                      try go_ints
                      exact hK'
                    · intro K' hK'
                      simp only [Act.put, List.setIfInBounds_toArray, List.set_cons_zero, List.set_cons_succ]
                      exact hK'
                  refine Flow.done ?_
                  go_wp2_with fail
                  exact ⟨⟨i + 1, _, by omega, by go_num, rfl, HBr.out.drew.setCell HG.out _, HSet⟩, by simp [RowKit.intOf] <;> omega⟩
                · have hst := hrn (fun e => hcb (Option.some.inj e))
                  have HS := Lib.hid (show runsP s (i + 1) = (l ++ [q]) ++ [1] by rw [HP2.out, hst])
                  have hbne : ((c.toNat : Int) == (b.toNat : Int)) = false := by rw [beq_eq_false_iff_ne]; exact fun e => hcb (UInt8.toNat_inj.1 (by omega))
                  have hbn2 : ¬ ((c.toNat : Int) = (b.toNat : Int)) := fun e => hcb (UInt8.toNat_inj.1 (by omega))
                  have t1 : w1.heap.size ≤ wr.heap.size := HBr.out.le
                  have t2 : (n + 1 + 1) * 8 ≤ 140737488355328 := by omega
                  have t3 : n + 1 + 1 ≤ maxLen := by unfold maxLen; omega
                  clear hst hrs hrn hcb
                  go_upto_region 7 with fail
                  refine wp_region_flow [(true, 0), (true, 1), (true, 2), (true, 3), (true, 4), (true, 5), (true, 6), (true, 7), (true, 8), (true, 9), (true, 10), (true, 11)] (fun _ => false) (by kernel_rfl) (by kernel_rfl) (by kernel_rfl) (by kernel_rfl) ?_
                  iterate 1
                    apply Flow.mv _ rfl
                    · intro K' hK'
                      simp only [Act.put, Act.eval, List.setIfInBounds_toArray, List.set_cons_zero, List.set_cons_succ, arr_getD, List.getD_cons_zero, List.getD_cons_succ]
                      exact hK'
                  iterate 1
                    apply Flow.calm2 _ _ rfl rfl
                    · intro w' hb' K' hK'
                      obtain ⟨hc', hf'⟩ := hb'.rule
                      go_simp
                      try go_ints
                      exact hK'
                    · intro K' hK'
                      simp only [Act.put, List.setIfInBounds_toArray, List.set_cons_zero, List.set_cons_succ]
                      exact hK'
                  iterate 1
                    apply Flow.mv _ rfl
                    · intro K' hK'
                      simp only [Act.put, Act.eval, List.setIfInBounds_toArray, List.set_cons_zero, List.set_cons_succ, arr_getD, List.getD_cons_zero, List.getD_cons_succ]
                      exact hK'
                  first
                    | (apply Flow.pass rfl (by rfl))
                    | (apply Flow.calmG _ rfl (by rfl)
                       · intro w' hb'
                         obtain ⟨hc', hf'⟩ := hb'.rule
                         go_simp
                         all_goals (try rfl))
                  simp only [Act.put, List.setIfInBounds_toArray, List.set_cons_zero, List.set_cons_succ]
                  try go_ints
                  first
                    | (apply Flow.pass rfl (by rfl))
                    | (apply Flow.calmG _ rfl (by rfl)
                       · intro w' hb'
                         obtain ⟨hc', hf'⟩ := hb'.rule
                         go_simp
                         all_goals (try rfl))
                  simp only [Act.put, List.setIfInBounds_toArray, List.set_cons_zero, List.set_cons_succ]
                  try go_ints
                  first
                    | (apply Flow.pass rfl (by rfl))
                    | (apply Flow.calmG _ rfl (by rfl)
                       · intro w' hb'
                         obtain ⟨hc', hf'⟩ := hb'.rule
                         go_simp
                         all_goals (try rfl))
                  simp only [Act.put, List.setIfInBounds_toArray, List.set_cons_zero, List.set_cons_succ]
                  try go_ints
                  first
                    | (apply Flow.pass rfl (by rfl))
                    | (apply Flow.calmG _ rfl (by rfl)
                       · intro w' hb'
                         obtain ⟨hc', hf'⟩ := hb'.rule
                         go_simp
                         all_goals (try rfl))
                  simp only [Act.put, List.setIfInBounds_toArray, List.set_cons_zero, List.set_cons_succ]
                  try go_ints
                  first
                    | (apply Flow.pass rfl (by rfl))
                    | (apply Flow.calmG _ rfl (by rfl)
                       · intro w' hb'
                         obtain ⟨hc', hf'⟩ := hb'.rule
                         go_simp
                         all_goals (try rfl))
                  simp only [Act.put, List.setIfInBounds_toArray, List.set_cons_zero, List.set_cons_succ]
                  try go_ints
                  first
                    | (apply Flow.pass rfl (by rfl))
                    | (apply Flow.calmG _ rfl (by rfl)
                       · intro w' hb'
                         obtain ⟨hc', hf'⟩ := hb'.rule
                         go_simp
                         all_goals (try rfl))
                  simp only [Act.put, List.setIfInBounds_toArray, List.set_cons_zero, List.set_cons_succ]
                  try go_ints
                  first
                    | (apply Flow.pass rfl (by rfl))
                    | (apply Flow.calmG _ rfl (by rfl)
                       · intro w' hb'
                         obtain ⟨hc', hf'⟩ := hb'.rule
                         go_simp
                         all_goals (try rfl))
                  simp only [Act.put, List.setIfInBounds_toArray, List.set_cons_zero, List.set_cons_succ]
                  try go_ints
                  first
                    | (apply Flow.pass rfl (by rfl))
                    | (apply Flow.calmG _ rfl (by rfl)
                       · intro w' hb'
                         obtain ⟨hc', hf'⟩ := hb'.rule
                         go_simp
                         all_goals (try rfl))
                  simp only [Act.put, List.setIfInBounds_toArray, List.set_cons_zero, List.set_cons_succ]
                  try go_ints
                  iterate 1
                    apply Flow.calm2 _ _ rfl rfl
                    · intro w' hb' K' hK'
                      obtain ⟨hc', hf'⟩ := hb'.rule
                      go_simp
                      try go_ints
                      exact hK'
                    · intro K' hK'
                      simp only [Act.put, List.setIfInBounds_toArray, List.set_cons_zero, List.set_cons_succ]
                      exact hK'
                  refine Flow.done ?_
                  have hbr2 := HBr.out.drew
                  have t1' : w1.heap.size ≤ wr.drew.heap.size := hbr2.le
                  have HO2 := own_bl HOw.out (Bl.refl wr).drew
                  go_upto_region 9 with fail
                  generalize hwq : wr.drew = wq at hbr2 HO2 t1' ⊢
                  clear hwq
                  go_wp2_with (at_builtin; refine wpList_append_one (w1 := w1) rfl (.tmp 51) (.tmp 52) 68 rfl 3 (.int .i64 0) 8 Tryz.underlying68 info_int rfl w1.heap.size _ (n + 1) (natCells l ++ [.int .i64 q]) rfl (.int .i64 1) rfl ?e1 ?e2 ?e3 ?e4 ?e5 ?e6 ?e7 ?e8; exact rfl; exact hbr2; exact Nat.le_refl _; exact t1'; exact HO2; exact t2; exact t3; intro v' w8 hown8 hb8 hg8)
                  have H9 := Lib.hid (show w8.ownsRow w1.heap.size 3 1 v' (runsP s (i + 1)).length (natCells (runsP s (i + 1))) by
                    rw [HS.out, List.length_append, List.length_append, List.length_singleton, List.length_singleton, ← HNl.out]
                    unfold natCells at hown8 ⊢
                    rw [List.map_append, List.map_append]
                    exact hown8)
                  have HB8 := Lib.hid hb8
                  clear hown8 hb8 hg8 HO2
                  go_wp2_with fail
                  exact ⟨⟨i + 1, v', by omega, by go_num, rfl, HB8.out, H9⟩, by simp [RowKit.intOf] <;> omega⟩
            · obtain rfl : i = s.length := by omega
              have hP : runsP s s.length = runsM s := if_neg (by omega)
              rw [hP] at hown
              obtain ⟨A2, c2, e2, hr2⟩ := own_reads hown.out
              have hcap := own_cap (show wr.ownsRow w1.heap.size 3 1 (.slice A2 (runsM s).length c2) (runsM s).length (natCells (runsM s)) from e2 ▸ hown.out)
              subst e2
              have HRr := Lib.hid hr2; have HCap := Lib.hid hcap
              clear hr2 hown hcap hP
              go_wp2_with fail
              refine bodyPost_ret (v := .tuple #[.slice A2 (runsM s).length c2, .bool true]) (by simp [results, Tryz.results146, go_sem]) rfl ⟨A2, _, c2, by rw [HB.out], fun h => (by rw [HB.out] at h; cases h), fun _ => ⟨rfl, HRr.out, HCap.out⟩, HB1.out.trans HBr.out⟩

end Go.Proofs.YtkipcobpnecmhaaGreatDoor


/-! Code 39 in plain lists: the text that is read. -/
namespace Go.Proofs.YtkipcobpnecmhaaGreatDoor
open Go.RowKit

def txt (ks : List Nat) : List UInt8 := ks.map fun k => lets44.getD k 0
def outR (s : List UInt8) : Option (List UInt8) := if lenOK s = true then (decP (runsM s)).map txt else none
def midT (t : List UInt8) : List UInt8 := (t.drop 1).take (t.length - 2)
def bodyT (t : List UInt8) : List UInt8 := (t.drop 1).take (t.length - 3)
def lastT (t : List UInt8) : List UInt8 := (t.drop (t.length - 2)).take 1
def shpT (t : List UInt8) : Bool := decide (4 ≤ t.length) && (decide (t.length ≤ 43) && (t.getD 0 0 == 42 && (t.getD (t.length - 1) 0 == 42 && !(midT t).contains 42)))
def rd39 (s : List UInt8) : List UInt8 × Int := match outR s with
  | none => ([], 2)
  | some t => if shpT t = true then (if letVal (bodyT t) = lastT t then (bodyT t, 0) else ([], 14)) else ([], 2)
theorem outR_made {s : List UInt8} (h : madeOf s [48, 49] = true) : outR s = (decM s).map txt := by
  unfold outR
  cases hl : lenOK s with
  | true => rw [if_pos rfl, dec_same (runsM_spec hl).2 (runsM_spec hl).1]
  | false => rw [if_neg (by decide), decM_bad h hl]; rfl
theorem lenOK_made {s : List UInt8} (h : madeOf s [48, 49] = false) : lenOK s = false := by
  unfold lenOK
  rw [h]
  simp
theorem outR_not {s : List UInt8} (h : madeOf s [48, 49] = false) : outR s = none := by
  unfold outR
  rw [lenOK_made h, if_neg (by decide)]
theorem rd_none {s : List UInt8} (h : outR s = none) : rd39 s = ([], 2) := by unfold rd39; rw [h]
theorem rd_shape {s t : List UInt8} (h : outR s = some t) (hs : shpT t = false) : rd39 s = ([], 2) := by unfold rd39; rw [h]; simp only [hs]; rfl
theorem rd_some {s t : List UInt8} (h : outR s = some t) (hs : shpT t = true) : rd39 s = if letVal (bodyT t) = lastT t then (bodyT t, 0) else ([], 14) := by unfold rd39; rw [h]; simp only [hs]; rfl
theorem txt_len (ks : List Nat) : (txt ks).length = ks.length := by unfold txt; rw [List.length_map]
theorem txt_add (ks : List Nat) (k : Nat) : txt (ks ++ [k]) = txt ks ++ [lets44.getD k 0] := by unfold txt; rw [List.map_append]; rfl
/-- A text of three parts. -/
theorem three {t : List UInt8} (h : 4 ≤ t.length) : t = t.getD 0 0 :: (midT t ++ [t.getD (t.length - 1) 0]) := by
  have h0 : t[0]? = some (t.getD 0 0) := by rw [List.getD_eq_getElem?_getD, List.getElem?_eq_getElem (by omega)]; rfl
  have hz : t[t.length - 1]? = some (t.getD (t.length - 1) 0) := by rw [List.getD_eq_getElem?_getD, List.getElem?_eq_getElem (by omega)]; rfl
  apply List.ext_getElem?
  intro i
  cases i with
  | zero => exact h0
  | succ i =>
    rw [List.getElem?_cons_succ]
    have hm : (midT t).length = t.length - 2 := by unfold midT; rw [List.length_take, List.length_drop]; omega
    by_cases h1 : i < t.length - 2
    · rw [List.getElem?_append_left (by omega)]
      unfold midT
      rw [List.getElem?_take_of_lt h1, List.getElem?_drop, Nat.add_comm]
    · rw [List.getElem?_append_right (by omega), hm]
      by_cases h2 : i = t.length - 2
      · rw [h2, Nat.sub_self, show t.length - 2 + 1 = t.length - 1 by omega, hz]
        rfl
      · rw [List.getElem?_eq_none (by omega), List.getElem?_eq_none (by simp; omega)]
theorem count_three {t : List UInt8} (h : 4 ≤ t.length) (h0 : t.getD 0 0 = 42) (hz : t.getD (t.length - 1) 0 = 42) : (Lib.countByte t 42 = 2) ↔ (midT t).contains 42 = false := by
  unfold Lib.countByte
  have e := three h
  rw [h0, hz] at e
  have hc : t.count 42 = (midT t).count 42 + 2 := by
    conv => lhs; rw [e]
    rw [List.count_cons_self, List.count_append]
    rfl
  rw [hc]
  constructor
  · intro h
    have : (midT t).count 42 = 0 := by omega
    have := List.count_eq_zero.1 this
    simpa using this
  · intro h
    have : 42 ∉ midT t := by simpa using h
    rw [List.count_eq_zero.2 this]
theorem txt_mem {ks : List Nat} (h : ∀ k ∈ ks, k < 44) : ∀ c ∈ txt ks, c ∈ lets44 := by
  intro c hc
  obtain ⟨k, hk, rfl⟩ := List.mem_map.1 hc
  have : ∀ k < 44, lets44.getD k 0 ∈ lets44 := by decide +kernel
  exact this k (h k hk)
theorem let_or : ∀ c ∈ lets44, c = 42 ∨ isLet c = true := by
  have : ∀ c ∈ lets44, (c == 42 || isLet c) = true := by decide +kernel
  intro c hc
  simpa using this c hc
theorem mid_ok {t : List UInt8} (hm : ∀ c ∈ t, c ∈ lets44) (h : (midT t).contains 42 = false) : lettersOk (midT t) = true := by
  unfold lettersOk
  rw [List.all_eq_true]
  intro c hc
  have hct : c ∈ t := by unfold midT at hc; exact List.mem_of_mem_drop (List.mem_of_mem_take hc)
  rcases let_or c (hm c hct) with rfl | h'
  · have : 42 ∉ midT t := by simpa using h
    exact absurd hc this
  · exact h'
theorem body_mid {t : List UInt8} (h : 4 ≤ t.length) : bodyT t = (midT t).take (t.length - 3) ∧ midT t = bodyT t ++ lastT t := by
  constructor
  · unfold bodyT midT
    rw [List.take_take, Nat.min_eq_left (by omega)]
  · unfold midT bodyT lastT
    obtain ⟨n, hn⟩ : ∃ n, t.length = n + 3 := ⟨t.length - 3, by omega⟩
    rw [hn, show n + 3 - 2 = n + 1 by omega, show n + 3 - 3 = n by omega, List.take_add_one, List.getElem?_drop, show 1 + n = n + 1 by omega]
    congr 1
    rw [List.take_one, List.head?_drop]
theorem body_ok {t : List UInt8} (hm : ∀ c ∈ t, c ∈ lets44) (hs : shpT t = true) : lettersOk (bodyT t) = true ∧ 1 ≤ (bodyT t).length ∧ (bodyT t).length ≤ 40 ∧ letErr (bodyT t) = 0 := by
  unfold shpT at hs
  simp only [Bool.and_eq_true, decide_eq_true_eq, beq_iff_eq, Bool.not_eq_true'] at hs
  obtain ⟨h4, h43, h0, hz, hc⟩ := hs
  have h1 := mid_ok hm hc
  have hb : lettersOk (bodyT t) = true := by
    rw [(body_mid h4).1]
    unfold lettersOk at h1 ⊢
    rw [List.all_eq_true] at h1 ⊢
    exact fun x hx => h1 x (List.mem_of_mem_take hx)
  have hl : (bodyT t).length = t.length - 3 := by unfold bodyT; rw [List.length_take, List.length_drop]; omega
  refine ⟨hb, by omega, by omega, ?_⟩
  unfold letErr
  rw [if_neg (fun e => by rw [e] at hl; simp at hl; omega), if_neg (by omega), if_pos hb]
/-! the map of the pieces -/
def tabN : Nat → List (List UInt8 × Nat)
  | 0 => []
  | k + 1 => (pieceK k, k) :: tabN k
theorem tabN_look (p : List UInt8) : ∀ n, n ≤ 44 → ∀ j, (tabN n).lookup p = some j ↔ j < n ∧ pieceK j = p
  | 0, _, j => by simp [tabN]
  | n + 1, hn, j => by
    have ih := tabN_look p n (by omega) j
    unfold tabN
    rw [List.lookup]
    by_cases h : p = pieceK n
    · subst h
      simp only [beq_self_eq_true]
      constructor
      · intro e; obtain rfl := Option.some.inj e; exact ⟨by omega, rfl⟩
      · rintro ⟨h1, h2⟩; rw [pieceK_inj j (by omega) n (by omega) h2]
    · have hb : (p == pieceK n) = false := by simpa using h
      simp only [hb]
      rw [ih]
      constructor
      · rintro ⟨h1, h2⟩; exact ⟨by omega, h2⟩
      · rintro ⟨h1, h2⟩
        refine ⟨?_, h2⟩
        rcases Nat.lt_or_ge j n with h3 | h3
        · exact h3
        · exact absurd (by rw [show j = n by omega] at h2; exact h2.symm) h
theorem tabN_find (p : List UInt8) : (tabN 44).lookup p = (List.range 44).find? fun k => pieceK k == p := by
  cases hf : (List.range 44).find? fun k => pieceK k == p with
  | some k =>
    obtain ⟨h1, h2⟩ := find_range hf
    exact (tabN_look p 44 (Nat.le_refl _) k).2 ⟨h1, by simpa using h2⟩
  | none =>
    cases hl : (tabN 44).lookup p with
    | none => rfl
    | some j =>
      obtain ⟨h1, h2⟩ := (tabN_look p 44 (Nat.le_refl _) j).1 hl
      have := List.find?_eq_none.1 hf j (List.mem_range.2 h1)
      exact absurd (by simpa using h2) this
theorem parts_none_dec {rs : List Nat} {j : Nat} (hj : 10 * j < rs.length) (hg : gP rs j = none) : decP rs = none := by
  unfold decP
  by_cases h : rs.length % 10 = 9
  · rw [if_pos h, partsP_eq]
    exact partsG_none_of (by omega) hg
  · rw [if_neg h]
theorem partsP_step {rs : List Nat} {j : Nat} {ks : List Nat} {k : Nat} (h : partsP rs j = some ks) (hg : gP rs j = some k) : partsP rs (j + 1) = some (ks ++ [k]) := by
  rw [partsP_eq] at h ⊢
  exact partsG_some h hg
theorem partsP_lt {rs : List Nat} {j : Nat} {ks : List Nat} (h : partsP rs j = some ks) : ks.length = j ∧ ∀ k ∈ ks, k < 44 := by
  rw [partsP_eq, partsG_iff] at h
  refine ⟨h.1, fun k hk => ?_⟩
  obtain ⟨i, hi, rfl⟩ := List.getElem_of_mem hk
  exact ((gP_iff _ _ _).1 (h.2 i _ (List.getElem?_eq_getElem hi))).2.1

end Go.Proofs.YtkipcobpnecmhaaGreatDoor
