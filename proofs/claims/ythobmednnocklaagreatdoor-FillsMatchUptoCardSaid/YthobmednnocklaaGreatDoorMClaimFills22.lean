/- bedref2.Code39Of: the modules of a right text. -/
import Derived.Test.YthobmednnocklaaGreatDoorMClaimFills2
import Derived.Test.YthobmednnocklaaGreatDoorMClaimFills20
import Derived.Test.YthobmednnocklaaGreatDoorMClaimFills5
import Derived.Test.YthobmednnocklaaGreatDoorMClaimFills13
import Derived.Test.YthobmednnocklaaGreatDoorMClaimFills10
import Derived.Test.YthobmednnocklaaGreatDoorMClaimFills9
import Derived.Test.YthobmednnocklaaGreatDoorMClaimFills8
import Derived.Test.YthobmednnocklaaGreatDoorMClaimFills4
import Derived.Shelf.Small.Strs
import Derived.Shelf.Strings.Count
import Derived.Shelf.Strings.Search3
import Derived.Shelf.Strings.Split
import Derived.Lib.Split
import Derived.Lib.CountLaws

namespace Go.Proofs
open Go.Shelf
def Tryz.laysIxB_ren : Go.Shelf.Ren := ⟨fun | 137 => 208 | 217 => 286 | 266 => 325 | n => n, fun | 9 => 9 | 5 => 5 | 3 => 3 | n => n, fun | n => n⟩
theorem Tryz.laysIxB : Go.Proofs.Lays.n137 Tryz.prog Tryz.laysIxB_ren := {
 mixed := by kernel_rfl
 f137 := Tryz.func208.trans (congrArg some (by kernel_rfl))
 f217 := Tryz.func286.trans (congrArg some (by kernel_rfl))
 f266 := Tryz.func325.trans (congrArg some (by kernel_rfl))
 t3 := Tryz.underlying3
 a3 := Tryz.isAgg3
 z3 := Tryz.sizeOf3
 v3 := Tryz.zeroValue3
 t5 := Tryz.underlying5
 a5 := Tryz.isAgg5
 z5 := Tryz.sizeOf5
 v5 := Tryz.zeroValue5
 t9 := Tryz.underlying9
 a9 := Tryz.isAgg9
 z9 := Tryz.sizeOf9
 v9 := Tryz.zeroValue9 }

end Go.Proofs
namespace Go.Proofs.YthobmednnocklaaGreatDoor
open Go.RowKit Go.Shelf

theorem u8_round (c : UInt8) : ((c.toNat : Int)).toNat.toUInt8 = c := by
 rw [Int.toNat_natCast]
 exact UInt8.ofNat_toNat
theorem ixB_any (l : List UInt8) (c : UInt8) (w : World) : Calls Tryz.prog 208 #[.string ⟨l.toArray⟩, .int .u8 (c.toNat : Int)] w fun e w' => e = .returned (.int .i64 (Lib.indexByte l c)) ∧ w = w' := by
 have h := Any.strings_IndexByte Tryz.laysIxB ⟨l.toArray⟩ (c.toNat : Int) w
 refine Calls.mono (R := fun e w' => e = .returned (.int .i64 (Lib.indexByte l ((c.toNat : Int)).toNat.toUInt8)) ∧ w' = w) h ?_
 rintro e w' ⟨rfl, rfl⟩
 rw [u8_round]
 exact ⟨rfl, rfl⟩
set_option maxRecDepth 100000 in
set_option maxHeartbeats 2000000 in
theorem pieces_any (w : World) (hT : SpOk w) : Calls Tryz.prog 207 #[] w (TxtRes pieceC w) := by
 have H := Lib.hid (fields_any pieceS pieceC (by decide) (by decide +kernel) (by decide +kernel) w hT)
 unfold pieceS at H
 go_enter Tryz.func207, Tryz.ntmps207
 go_wp2_with fail
 refine H.out.mono ?_
 rintro e w1 ⟨g, rfl, hr, hb⟩
 go_wp2_with fail
 go_ret
 exact ⟨g, rfl, hr, hb⟩
set_option maxRecDepth 100000 in
set_option maxHeartbeats 2000000 in
theorem wide39_any (w : World) (hT : SpOk w) : Calls Tryz.prog 238 #[] w (TxtRes pieceC w) := by
 have H := Lib.hid (fields_any pieceS pieceC (by decide) (by decide +kernel) (by decide +kernel) w hT)
 unfold pieceS at H
 go_enter Tryz.func238, Tryz.ntmps238
 go_wp2_with fail
 refine H.out.mono ?_
 rintro e w1 ⟨g, rfl, hr, hb⟩
 go_wp2_with fail
 go_ret
 exact ⟨g, rfl, hr, hb⟩

end Go.Proofs.YthobmednnocklaaGreatDoor


/-! Check letters of Code 39. -/
namespace Go.Proofs.YthobmednnocklaaGreatDoor
open Go.RowKit Go.Shelf

def lets43 : List UInt8 := [48, 49, 50, 51, 52, 53, 54, 55, 56, 57, 65, 66, 67, 68, 69, 70, 71, 72, 73, 74, 75, 76, 77, 78, 79, 80, 81, 82, 83, 84, 85, 86, 87, 88, 89, 90, 45, 46, 32, 36, 47, 43, 37]
theorem ixB_ge (l : List UInt8) (c : UInt8) : -1 ≤ Lib.indexByte l c := Lib.indexByte_ge l c
theorem ixB_mem (l : List UInt8) (c : UInt8) : 0 ≤ Lib.indexByte l c ↔ c ∈ l := by
 constructor
 · intro h
   obtain ⟨o, ho⟩ : ∃ o : Nat, Lib.indexByte l c = o := ⟨(Lib.indexByte l c).toNat, by omega⟩
   exact List.mem_of_getElem? (Lib.indexByte_some ho).1
 · intro h
   have h1 := ixB_ge l c
   by_cases hn : Lib.indexByte l c = -1
   · obtain ⟨k, hk, rfl⟩ := List.getElem_of_mem h
     exact absurd (List.getElem?_eq_getElem hk) (Lib.indexByte_none hn k)
   · omega
theorem ixB_lt {l : List UInt8} {c : UInt8} (h : 0 ≤ Lib.indexByte l c) : Lib.indexByte l c < l.length ∧ l[(Lib.indexByte l c).toNat]? = some c := by
 obtain ⟨o, ho⟩ : ∃ o : Nat, Lib.indexByte l c = o := ⟨(Lib.indexByte l c).toNat, by omega⟩
 have h1 := (Lib.indexByte_some ho).1
 have h2 := (List.getElem?_eq_some_iff.1 h1).1
 rw [ho]
 exact ⟨by omega, by simpa using h1⟩
def isLet (c : UInt8) : Bool := lets43.contains c
def lettersOk (l : List UInt8) : Bool := l.all isLet
/-- The number of a letter. -/
def numL (c : UInt8) : Nat := (Lib.indexByte lets43 c).toNat
def sumL (l : List UInt8) : Nat → Nat
 | 0 => 0
 | i + 1 => sumL l i + numL (l.getD i 0)
def chkL (l : List UInt8) : List UInt8 := [lets44.getD (sumL l l.length % 43) 0]
def letErr (l : List UInt8) : Int := if l = [] then 9 else if 40 < l.length then 4 else if lettersOk l = true then 0 else 2
def letVal (l : List UInt8) : List UInt8 := if letErr l = 0 then chkL l else []
theorem letOk_made (l : List UInt8) : madeOf l lets43 = lettersOk l := rfl
theorem isLet_ix {c : UInt8} : isLet c = true ↔ 0 ≤ Lib.indexByte lets43 c := by
 rw [ixB_mem]
 unfold isLet
 simp
theorem isLet_num {c : UInt8} (h : isLet c = true) : Lib.indexByte lets43 c = (numL c : Int) ∧ numL c < 43 ∧ lets43[numL c]? = some c := by
 have h1 := isLet_ix.1 h
 obtain ⟨h2, h3⟩ := ixB_lt h1
 unfold numL
 refine ⟨by omega, ?_, h3⟩
 have : (lets43.length : Int) = 43 := rfl
 omega
set_option maxRecDepth 100000 in
theorem ix44_all : ∀ c ∈ lets43, Lib.indexByte lets44 c = Lib.indexByte lets43 c := by decide +kernel
theorem ix44 {c : UInt8} (h : isLet c = true) : Lib.indexByte lets44 c = (numL c : Int) := by
 rw [ix44_all c (by unfold isLet at h; simpa using h), (isLet_num h).1]
theorem sumL_le {l : List UInt8} (h : lettersOk l = true) : ∀ i, i ≤ l.length → sumL l i ≤ 43 * i
 | 0, _ => Nat.le_refl _
 | i + 1, hi => by
  have ih := sumL_le h i (by omega)
  have hg : l[i]? = some l[i] := List.getElem?_eq_getElem (by omega)
  have hk : isLet l[i] = true := List.all_eq_true.1 h _ (List.mem_of_getElem? hg)
  have h2 := (isLet_num hk).2.1
  show sumL l i + numL (l.getD i 0) ≤ _
  rw [List.getD_eq_getElem?_getD, hg]
  show sumL l i + numL l[i] ≤ _
  omega
theorem ok_take {l : List UInt8} {i : Nat} {c : UInt8} (h : lettersOk (l.take i) = true) (hg : l[i]? = some c) : lettersOk (l.take (i + 1)) = isLet c := by
 rw [List.take_add_one, hg]
 unfold lettersOk at h ⊢
 rw [List.all_append, h]
 simp
theorem sumL_succ {l : List UInt8} {i : Nat} {c : UInt8} (hg : l[i]? = some c) : sumL l (i + 1) = sumL l i + numL c := by
 show sumL l i + numL (l.getD i 0) = _
 rw [List.getD_eq_getElem?_getD, hg]
 rfl
theorem sumL_small {l : List UInt8} : ∀ i, i ≤ l.length → lettersOk (l.take i) = true → sumL l i ≤ 43 * i
 | 0, _, _ => Nat.le_refl _
 | i + 1, hi, h => by
  have hg : l[i]? = some l[i] := List.getElem?_eq_getElem (by omega)
  have h1 : lettersOk (l.take i) = true := by
   unfold lettersOk at h ⊢
   rw [List.all_eq_true] at h ⊢
   exact fun x hx => h x (by rw [List.take_add_one]; exact List.mem_append_left _ hx)
  have ih := sumL_small i (by omega) h1
  rw [ok_take h1 hg] at h
  have h2 := (isLet_num h).2.1
  rw [sumL_succ hg]
  omega
theorem letOf (l : List UInt8) (r n : Nat) (h : r < n) (hn : n ≤ l.length) : (⟨l.toArray⟩ : ByteArray).extract r (r + 1) = ⟨[l.getD r 0].toArray⟩ := by
 rw [slice_ab, show r + 1 - r = 1 by omega]
 congr 2
 rw [List.take_one, List.head?_drop, List.getD_eq_getElem?_getD, List.getElem?_eq_getElem (by omega)]
 rfl
theorem let43 {r : Nat} (h : r < 43) : lets43.getD r 0 = lets44.getD r 0 := by
 have : ∀ r < 43, lets43.getD r 0 = lets44.getD r 0 := by decide +kernel
 exact this r h
set_option maxRecDepth 100000 in
set_option maxHeartbeats 4000000 in
theorem checkLet_any (l : List UInt8) (w : World) (hl : l.length ≤ 9223372036854775807) :
 Calls Tryz.prog 206 #[.string ⟨l.toArray⟩] w fun e w' => e = .returned (.tuple #[.string ⟨(letVal l).toArray⟩, .int .i64 (letErr l)]) ∧ Bl w w' := by
 have hsz : (⟨l.toArray⟩ : ByteArray).size = l.length := Lib.size_mk l
 go_enter Tryz.func206, Tryz.ntmps206
 by_cases h0 : l = []
 · have hE : letErr l = 9 := by unfold letErr; rw [if_pos h0]
   have HV := Lib.hid (show letVal l = [] by unfold letVal; rw [hE]; rfl)
   have HE := Lib.hid hE
   have hemp : l.isEmpty = true := by rw [h0]; rfl
   clear h0 hE
   go_wp2_with fail
   exact bodyPost_ret (v := .tuple #[.string ⟨#[]⟩, .int .i64 9]) (by simp [results, Tryz.results206, go_sem]) rfl ⟨by rw [HV.out, HE.out], Bl.refl _⟩
 · have hemp : l.isEmpty = false := by cases l with | nil => exact absurd rfl h0 | cons a t => rfl
   by_cases h40 : 40 < l.length
   · have hE : letErr l = 4 := by unfold letErr; rw [if_neg h0, if_pos h40]
     have HV := Lib.hid (show letVal l = [] by unfold letVal; rw [hE]; rfl)
     have HE := Lib.hid hE
     have h40I : (40 : Int) < (l.length : Int) := by omega
     clear h0 hE h40
     go_wp2_with fail
     exact bodyPost_ret (v := .tuple #[.string ⟨#[]⟩, .int .i64 4]) (by simp [results, Tryz.results206, go_sem]) rfl ⟨by rw [HV.out, HE.out], Bl.refl _⟩
   · have hE : letErr l = if lettersOk l = true then 0 else 2 := by unfold letErr; rw [if_neg h0, if_neg h40]
     have h40I : (l.length : Int) ≤ 40 := by omega
     have HEE := Lib.hid hE; have H40 := Lib.hid h40
     clear h0 hE h40
     go_wp2_with fail
     go_loopw [4, 16] (fun s4 s16 wr => ∃ i : Nat, i ≤ l.length ∧ s16 = .int .i64 (i : Int) ∧ s4 = .int .i64 (sumL l i : Int) ∧ lettersOk (l.take i) = true ∧ w = wr) (fun _ v _ => l.length - (RowKit.intOf v).toNat)
     case atStart => exact ⟨0, Nat.zero_le _, rfl, rfl, rfl, rfl⟩
     case round =>
      rename World => wr
      obtain ⟨i, hi, rfl, rfl, hok, hw⟩ := hrel
      subst hw
      by_cases hlt : i < l.length
      · have hg : l[i]? = some l[i] := List.getElem?_eq_getElem hlt
        obtain ⟨c, hc⟩ : ∃ c, c = l[i] := ⟨_, rfl⟩
        rw [← hc] at hg
        obtain ⟨m1, m2⟩ := bytes_at hg
        have hltI : (i : Int) < (l.length : Int) := by omega
        have hok2 := ok_take hok hg
        have hss := sumL_succ hg
        have hsm := sumL_small i hi hok
        have hix := ixB_any lets43 c w
        unfold lets43 at hix
        cases hil : isLet c with
        | true =>
         obtain ⟨hn1, hn2, -⟩ := isLet_num hil
         unfold lets43 at hn1
         rw [hn1] at hix
         obtain ⟨n, hn⟩ : ∃ n, n = numL c := ⟨_, rfl⟩
         obtain ⟨s, hs⟩ : ∃ s, s = sumL l i := ⟨_, rfl⟩
         rw [← hn] at hix hn2 hss
         rw [← hs] at hss hsm ⊢
         have Hix := Lib.hid hix; have HSs := Lib.hid hss
         have HOk := Lib.hid (show lettersOk (l.take (i + 1)) = true by rw [hok2, hil])
         clear hix hss hn1 hn hs hok2 hil hg hc hok
         go_wp2_with fail
         refine Hix.out.mono ?_
         rintro e w' ⟨rfl, hw⟩
         subst hw
         go_wp2_with fail
         exact ⟨⟨i + 1, by omega, by go_num, by rw [HSs.out]; simp, HOk.out, by trivial⟩, by simp [RowKit.intOf] <;> omega⟩
        | false =>
         have hn1 : Lib.indexByte lets43 c = -1 := by
          have h1 := ixB_ge lets43 c
          have h2 : ¬ 0 ≤ Lib.indexByte lets43 c := fun h => by rw [isLet_ix.2 h] at hil; cases hil
          omega
         unfold lets43 at hn1
         rw [hn1] at hix
         have Hix := Lib.hid hix
         have hbad : lettersOk l = false := by
          cases hx : lettersOk l with
          | false => rfl
          | true =>
           have := List.all_eq_true.1 hx c (List.mem_of_getElem? hg)
           rw [this] at hil
           cases hil
         have hE : letErr l = 2 := HEE.out.trans (by rw [hbad]; rfl)
         have HV := Lib.hid (show letVal l = [] by unfold letVal; rw [hE]; rfl)
         have HE := Lib.hid hE
         clear hix hss hn1 hok2 hil hg hc hok hbad hE
         go_wp2_with fail
         refine Hix.out.mono ?_
         rintro e w' ⟨rfl, hw⟩
         subst hw
         go_wp2_with fail
         exact bodyPost_ret (v := .tuple #[.string ⟨#[]⟩, .int .i64 2]) (by simp [results, Tryz.results206, go_sem]) rfl ⟨by rw [HV.out, HE.out], Bl.refl _⟩
      · obtain rfl : i = l.length := by omega
        rw [List.take_length] at hok
        have hsm := sumL_le hok l.length (Nat.le_refl _)
        have hE : letErr l = 0 := HEE.out.trans (by rw [hok]; rfl)
        have HV := Lib.hid (show letVal l = chkL l by unfold letVal; rw [hE]; rfl)
        have HE := Lib.hid hE
        obtain ⟨s, hs⟩ : ∃ s, s = sumL l l.length := ⟨_, rfl⟩
        obtain ⟨r, hr⟩ : ∃ r, r = s % 43 := ⟨_, rfl⟩
        have hrm : (s : Int) % 43 = (r : Int) := by omega
        have hr43 : r < 43 := by omega
        have hex := letOf lets43 r 43 hr43 (by decide)
        rw [let43 hr43] at hex
        obtain ⟨X, hX⟩ : ∃ X, X = [lets44.getD r 0] := ⟨_, rfl⟩
        rw [← hX] at hex
        unfold lets43 at hex
        have HX := Lib.hid (show chkL l = X by unfold chkL; rw [← hs, ← hr, hX])
        rw [← hs] at hsm ⊢
        clear hE hok hs hr hX
        go_wp2_with fail
        exact bodyPost_ret (v := .tuple #[.string ⟨X.toArray⟩, .int .i64 0]) (by simp [results, Tryz.results206, go_sem]) rfl ⟨by rw [HV.out, HE.out, HX.out], Bl.refl _⟩
set_option maxRecDepth 100000 in
set_option maxHeartbeats 4000000 in
theorem checkLetterOf_any (l : List UInt8) (w : World) (h40 : l.length ≤ 1000) (hok : lettersOk l = true) :
 Calls Tryz.prog 237 #[.string ⟨l.toArray⟩] w fun e w' => e = .returned (.string ⟨(chkL l).toArray⟩) ∧ w = w' := by
 have hsz : (⟨l.toArray⟩ : ByteArray).size = l.length := Lib.size_mk l
 have HO := Lib.hid hok
 clear hok
 go_enter Tryz.func237, Tryz.ntmps237
 go_wp2_with fail
 go_loopw [3, 7] (fun s4 s16 wr => ∃ i : Nat, i ≤ l.length ∧ s16 = .int .i64 (i : Int) ∧ s4 = .int .i64 (sumL l i : Int) ∧ w = wr) (fun _ v _ => l.length - (RowKit.intOf v).toNat)
 case atStart => exact ⟨0, Nat.zero_le _, rfl, rfl, rfl⟩
 case round =>
  rename World => wr
  obtain ⟨i, hi, rfl, rfl, hw⟩ := hrel
  subst hw
  by_cases hlt : i < l.length
  · have hg : l[i]? = some l[i] := List.getElem?_eq_getElem hlt
    obtain ⟨c, hc⟩ : ∃ c, c = l[i] := ⟨_, rfl⟩
    rw [← hc] at hg
    obtain ⟨m1, m2⟩ := bytes_at hg
    have hltI : (i : Int) < (l.length : Int) := by omega
    have hss := sumL_succ hg
    have hsm := sumL_le HO.out i hi
    have hil : isLet c = true := List.all_eq_true.1 HO.out c (List.mem_of_getElem? hg)
    have hix := ixB_any lets44 c w
    rw [ix44 hil] at hix
    unfold lets44 at hix
    have hn2 := (isLet_num hil).2.1
    obtain ⟨n, hn⟩ : ∃ n, n = numL c := ⟨_, rfl⟩
    obtain ⟨s, hs⟩ : ∃ s, s = sumL l i := ⟨_, rfl⟩
    rw [← hn] at hix hn2 hss
    rw [← hs] at hss hsm ⊢
    have Hix := Lib.hid hix; have HSs := Lib.hid hss
    clear hix hss hn hs hil hg hc
    go_wp2_with fail
    refine Hix.out.mono ?_
    rintro e w' ⟨rfl, hw⟩
    subst hw
    go_wp2_with fail
    exact ⟨⟨i + 1, by omega, by go_num, by rw [HSs.out]; simp, by trivial⟩, by simp [RowKit.intOf] <;> omega⟩
  · obtain rfl : i = l.length := by omega
    have hsm := sumL_le HO.out l.length (Nat.le_refl _)
    obtain ⟨s, hs⟩ : ∃ s, s = sumL l l.length := ⟨_, rfl⟩
    obtain ⟨r, hr⟩ : ∃ r, r = s % 43 := ⟨_, rfl⟩
    have hrm : (s : Int) % 43 = (r : Int) := by omega
    have hr43 : r < 43 := by omega
    have hex := letOf lets44 r 44 (by omega) (by decide)
    obtain ⟨X, hX⟩ : ∃ X, X = [lets44.getD r 0] := ⟨_, rfl⟩
    rw [← hX] at hex
    unfold lets44 at hex
    have HX := Lib.hid (show chkL l = X by unfold chkL; rw [← hs, ← hr, hX])
    rw [← hs] at hsm ⊢
    clear hs hr hX
    go_wp2_with fail
    go_ret
    exact ⟨by rw [HX.out]; rfl, by trivial⟩

end Go.Proofs.YthobmednnocklaaGreatDoor


/-! bedref2.inner39, bedref2.LetterError. -/
namespace Go.Proofs.YthobmednnocklaaGreatDoor
open Go.RowKit Go.Shelf

theorem cut43 : (⟨lets44.toArray⟩ : ByteArray).extract 0 43 = ⟨lets43.toArray⟩ := by rw [slice_ab]; rfl
set_option maxRecDepth 100000 in
set_option maxHeartbeats 4000000 in
theorem inner39_any (l : List UInt8) (w : World) (hl : l.length ≤ 9223372036854775807) :
 Calls Tryz.prog 236 #[.string ⟨l.toArray⟩] w fun e w' => e = .returned (.bool (!lettersOk l)) ∧ Bl w w' := by
 have hsz : (⟨l.toArray⟩ : ByteArray).size = l.length := Lib.size_mk l
 have hcut := cut43
 unfold lets44 lets43 at hcut
 go_enter Tryz.func236, Tryz.ntmps236
 go_wp2_with fail
 go_loopw [6] (fun s16 wr => ∃ i : Nat, i ≤ l.length ∧ s16 = .int .i64 (i : Int) ∧ lettersOk (l.take i) = true ∧ Bl w wr) (fun v _ => l.length - (RowKit.intOf v).toNat)
 case atStart => exact ⟨0, Nat.zero_le _, rfl, rfl, Bl.refl _⟩
 case round =>
  rename World => wr
  obtain ⟨i, hi, rfl, hok, hbr⟩ := hrel
  by_cases hlt : i < l.length
  · have hg : l[i]? = some l[i] := List.getElem?_eq_getElem hlt
    obtain ⟨c, hc⟩ : ∃ c, c = l[i] := ⟨_, rfl⟩
    rw [← hc] at hg
    obtain ⟨m1, m2⟩ := bytes_at hg
    have hltI : (i : Int) < (l.length : Int) := by omega
    have hok2 := ok_take hok hg
    have hix := fun wx => ixB_any lets43 c wx
    have HBr := Lib.hid hbr
    cases hil : isLet c with
    | true =>
     obtain ⟨hn1, hn2, -⟩ := isLet_num hil
     simp only [hn1] at hix
     obtain ⟨n, hn⟩ : ∃ n, n = numL c := ⟨_, rfl⟩
     rw [← hn] at hix hn2
     unfold lets43 at hix
     have Hix := Lib.hid hix
     have HOk := Lib.hid (show lettersOk (l.take (i + 1)) = true by rw [hok2, hil])
     clear hix hn1 hn hok2 hil hg hc hok hbr
     go_upto_region 4 with fail
     refine wp_region_flow [(true, 0), (true, 1), (true, 2), (true, 3), (false, 4), (true, 5)] (fun _ => false) (by kernel_rfl) (by kernel_rfl) (by kernel_rfl) (by kernel_rfl) ?_
     iterate 1
      apply Flow.calm2 _ _ rfl rfl
      · intro w' hb' K' hK'
        obtain ⟨hc', hf'⟩ := hb'.rule
        go_simp
        try go_ints
        exact hK'
      · intro K' hK'
        simp only [sqA]
        exact hK'
     iterate 2
      apply Flow.mv _ rfl
      · intro K' hK'
        simp only [sqA, Act.eval, arr_getD, List.getD_cons_zero, List.getD_cons_succ]
        exact hK'
     iterate 1
      apply Flow.calm2 _ _ rfl rfl
      · intro w' hb' K' hK'
        obtain ⟨hc', hf'⟩ := hb'.rule
        go_simp
        try go_ints
        exact hK'
      · intro K' hK'
        simp only [sqA]
        exact hK'
     apply Flow.move rfl
     go_wp2_with fail
     refine (Hix.out _).mono ?_
     rintro e w' ⟨rfl, hw⟩
     subst hw
     have HB1 := HBr.out
     go_wp2_with fail
     refine ⟨fun _ => (by first | exact HB1 | exact Bl.refl _), ?_⟩
     iterate 1
      apply Flow.calm2 _ _ rfl rfl
      · intro w' hb' K' hK'
        obtain ⟨hc', hf'⟩ := hb'.rule
        go_simp
        try go_ints
        exact hK'
      · intro K' hK'
        simp only [sqA]
        exact hK'
     refine Flow.done ?_
     go_wp2_with fail
     exact ⟨⟨i + 1, by omega, by go_num, HOk.out, HBr.out.drew⟩, by simp [RowKit.intOf] <;> omega⟩
    | false =>
     have hn1 : Lib.indexByte lets43 c = -1 := by
      have h1 := ixB_ge lets43 c
      have h2 : ¬ 0 ≤ Lib.indexByte lets43 c := fun h => by rw [isLet_ix.2 h] at hil; cases hil
      omega
     simp only [hn1] at hix
     unfold lets43 at hix
     have Hix := Lib.hid hix
     have hbad : lettersOk l = false := by
      cases hx : lettersOk l with
      | false => rfl
      | true =>
       have := List.all_eq_true.1 hx c (List.mem_of_getElem? hg)
       rw [this] at hil
       cases hil
     have HBad := Lib.hid hbad
     clear hix hn1 hok2 hil hg hc hok hbad hbr
     go_upto_region 4 with fail
     refine wp_region_flow [(true, 0), (true, 1), (true, 2), (true, 3), (false, 4), (true, 5)] (fun _ => false) (by kernel_rfl) (by kernel_rfl) (by kernel_rfl) (by kernel_rfl) ?_
     iterate 1
      apply Flow.calm2 _ _ rfl rfl
      · intro w' hb' K' hK'
        obtain ⟨hc', hf'⟩ := hb'.rule
        go_simp
        try go_ints
        exact hK'
      · intro K' hK'
        simp only [sqA]
        exact hK'
     iterate 2
      apply Flow.mv _ rfl
      · intro K' hK'
        simp only [sqA, Act.eval, arr_getD, List.getD_cons_zero, List.getD_cons_succ]
        exact hK'
     iterate 1
      apply Flow.calm2 _ _ rfl rfl
      · intro w' hb' K' hK'
        obtain ⟨hc', hf'⟩ := hb'.rule
        go_simp
        try go_ints
        exact hK'
      · intro K' hK'
        simp only [sqA]
        exact hK'
     apply Flow.move rfl
     go_wp2_with fail
     refine (Hix.out _).mono ?_
     rintro e w' ⟨rfl, hw⟩
     subst hw
     have HB1 := HBr.out
     go_wp2_with fail
     refine ⟨fun _ => (by first | exact HB1 | exact Bl.refl _), ?_⟩
     iterate 1
      apply Flow.calm2 _ _ rfl rfl
      · intro w' hb' K' hK'
        obtain ⟨hc', hf'⟩ := hb'.rule
        go_simp
        try go_ints
        exact hK'
      · intro K' hK'
        simp only [sqA]
        exact hK'
     refine Flow.done ?_
     go_wp2_with fail
     exact bodyPost_ret (v := .bool true) (by simp [results, Tryz.results236, go_sem]) rfl ⟨by rw [HBad.out]; rfl, HBr.out.drew⟩
  · obtain rfl : i = l.length := by omega
    rw [List.take_length] at hok
    have HO := Lib.hid hok
    clear hok
    go_wp2_with fail
    go_ret
    exact ⟨ret_bool (by rw [HO.out]; rfl), hbr⟩
set_option maxRecDepth 100000 in
set_option maxHeartbeats 4000000 in
theorem letterError_any (l : List UInt8) (w : World) (hl : l.length ≤ 9223372036854775807) :
 Calls Tryz.prog 154 #[.string ⟨l.toArray⟩] w fun e w' => e = .returned (.int .i64 (letErr l)) ∧ Bl w w' := by
 have hsz : (⟨l.toArray⟩ : ByteArray).size = l.length := Lib.size_mk l
 have hcut := cut43
 unfold lets44 lets43 at hcut
 have ht := fun wx => trim_any l lets43 wx hl (by decide) (by
  intro j b h
  have : ∀ b ∈ lets43, b.toNat < 128 := by decide
  exact this b (List.mem_of_getElem? h))
 have hin := fun wx => inner39_any l wx hl
 have HTm := Lib.hid ((trim_made l lets43).trans (letOk_made l))
 obtain ⟨T, hTT⟩ : ∃ T, T = Lib.trimS l lets43 := ⟨_, rfl⟩
 rw [← hTT] at ht HTm
 unfold lets43 at ht
 have HTr := Lib.hid ht; have HIn := Lib.hid hin
 have hem : l.isEmpty = decide (l = []) := by cases l <;> rfl
 have hln : decide (40 < l.length) = decide ((40 : Int) < (l.length : Int)) := by rw [decide_eq_decide]; omega
 have HE := Lib.hid (show letErr l = firstNZ [whenI l.isEmpty 9, whenI (decide ((40 : Int) < (l.length : Int))) 4, whenI (!lettersOk l) 2] by
  unfold letErr
  rw [hem, ← hln]
  by_cases h0 : l = []
  · rw [if_pos h0, decide_eq_true h0]; rfl
  · rw [if_neg h0, decide_eq_false h0]
    by_cases h4 : 40 < l.length
    · rw [if_pos h4, decide_eq_true h4]; rfl
    · rw [if_neg h4, decide_eq_false h4]
      cases lettersOk l <;> rfl)
 clear hem hln ht hin hTT
 go_enter Tryz.func154, Tryz.ntmps154
 cases hok : lettersOk l with
 | true =>
  have hte : T.isEmpty = true := by rw [HTm.out, hok]
  rw [hok] at HE HIn
  clear hok HTm
  go_upto_region 1 with fail
  refine wp_region_flow [(true, 0), (true, 1), (true, 3), (true, 4), (true, 5), (true, 7), (true, 8), (false, 2), (false, 6), (false, 9), (true, 10), (true, 11), (true, 12), (false, 13), (true, 14), (false, 15), (false, 16), (false, 17), (true, 18)] (fun _ => false) (by kernel_rfl) (by kernel_rfl) (by kernel_rfl) (by kernel_rfl) ?_
  iterate 1
   apply Flow.mv _ rfl
   · intro K' hK'
     simp only [sqA, Act.eval, arr_getD, List.getD_cons_zero]
     exact hK'
  iterate 1
   apply Flow.calm2 _ _ rfl rfl
   · intro w' hb' K' hK'
     obtain ⟨hc', hf'⟩ := hb'.rule
     go_simp
     try go_ints
     exact hK'
   · intro K' hK'
     simp only [sqA]
     exact hK'
  iterate 1
   apply Flow.mv _ rfl
   · intro K' hK'
     simp only [sqA, Act.eval, arr_getD, List.getD_cons_zero]
     exact hK'
  iterate 2
   apply Flow.calm2 _ _ rfl rfl
   · intro w' hb' K' hK'
     obtain ⟨hc', hf'⟩ := hb'.rule
     go_simp
     try go_ints
     exact hK'
   · intro K' hK'
     simp only [sqA]
     exact hK'
  iterate 1
   apply Flow.mv _ rfl
   · intro K' hK'
     simp only [sqA, Act.eval, arr_getD, List.getD_cons_zero]
     exact hK'
  iterate 1
   apply Flow.calm2 _ _ rfl rfl
   · intro w' hb' K' hK'
     obtain ⟨hc', hf'⟩ := hb'.rule
     go_simp
     try go_ints
     exact hK'
   · intro K' hK'
     simp only [sqA]
     exact hK'
  apply Flow.move rfl
  go_wp2_with fail
  refine (when_any _ _ _).mono ?_
  rintro e w1 ⟨rfl, hw⟩
  subst hw
  have HB1 := Bl.refl w
  go_wp2_with fail
  refine ⟨fun _ => (by first | exact HB1 | exact Bl.refl _), ?_⟩
  apply Flow.move rfl
  go_wp2_with fail
  refine (when_any _ _ _).mono ?_
  rintro e w1 ⟨rfl, hw⟩
  subst hw
  have HB2 := Bl.refl w
  go_wp2_with fail
  refine ⟨fun _ => (by first | exact HB2 | exact Bl.refl _), ?_⟩
  apply Flow.move rfl
  go_wp2_with fail
  refine (HTr.out _).mono ?_
  rintro e w3 ⟨rfl, HB3⟩
  go_wp2_with fail
  refine ⟨fun _ => (by first | exact HB3 | exact Bl.refl _), ?_⟩
  iterate 1
   apply Flow.calm2 _ _ rfl rfl
   · intro w' hb' K' hK'
     obtain ⟨hc', hf'⟩ := hb'.rule
     go_simp
     try go_ints
     exact hK'
   · intro K' hK'
     simp only [sqA]
     exact hK'
  iterate 1
   apply Flow.mv _ rfl
   · intro K' hK'
     simp only [sqA, Act.eval, arr_getD, List.getD_cons_zero, List.getD_cons_succ]
     exact hK'
  first
   | (apply Flow.pass rfl (by rfl))
   | (apply Flow.calmG _ rfl (by rfl)
      · intro w' hb'
        obtain ⟨hc', hf'⟩ := hb'.rule
        go_simp
        all_goals (try rfl))
  simp only [sqA]
  try go_ints
  -- a guarded mover
  apply Flow.move rfl
  go_wp2_with fail
  refine (HIn.out _).mono ?_
  rintro e w4 ⟨rfl, HB4⟩
  go_wp2_with fail
  refine ⟨fun _ => (by first | exact HB4 | exact Bl.refl _), ?_⟩
  iterate 1
   apply Flow.calm2 _ _ rfl rfl
   · intro w' hb' K' hK'
     obtain ⟨hc', hf'⟩ := hb'.rule
     go_simp
     try go_ints
     exact hK'
   · intro K' hK'
     simp only [sqA]
     exact hK'
  apply Flow.move rfl
  go_wp2_with fail
  refine (when_any _ _ _).mono ?_
  rintro e w1 ⟨rfl, hw⟩
  subst hw
  have HB5 := Bl.refl w
  go_wp2_with fail
  refine ⟨fun _ => (by first | exact HB5 | exact Bl.refl _), ?_⟩
  apply Flow.move rfl
  go_wp2_with fail
  first | refine ⟨fun _ => ?_, ?_⟩ | refine ⟨?_, ?_⟩
  · repeat' (first | exact Bl.refl _ | refine Bl.drewL ?_ | refine Bl.drew ?_ | refine Bl.alloc ?_ _)
  apply Flow.move rfl
  go_wp2_with fail
  refine (first3_any _ _ _ _ _ (Blk.new _ _ _)).mono ?_
  rintro e w' ⟨rfl, hw⟩
  subst hw
  have HB7 := Bl.refl w
  go_wp2_with fail
  refine ⟨fun _ => (by first | exact HB7 | exact Bl.refl _), ?_⟩
  iterate 1
   apply Flow.asg _ rfl
   · intro K' hK'
     simp only [sqA, Act.eval, arr_getD, List.getD_cons_zero, List.getD_cons_succ]
     exact hK'
  refine Flow.done ?_
  go_wp2_with fail
  go_ret
  refine ⟨ret_int HE.out.symm, ?_⟩
  exact ((Bl.ofDrew HB3).trans HB4).alloc _
 | false =>
  have hte : T.isEmpty = false := by rw [HTm.out, hok]
  rw [hok] at HE HIn
  clear hok HTm
  go_upto_region 1 with fail
  refine wp_region_flow [(true, 0), (true, 1), (true, 3), (true, 4), (true, 5), (true, 7), (true, 8), (false, 2), (false, 6), (false, 9), (true, 10), (true, 11), (true, 12), (false, 13), (true, 14), (false, 15), (false, 16), (false, 17), (true, 18)] (fun _ => false) (by kernel_rfl) (by kernel_rfl) (by kernel_rfl) (by kernel_rfl) ?_
  iterate 1
   apply Flow.mv _ rfl
   · intro K' hK'
     simp only [sqA, Act.eval, arr_getD, List.getD_cons_zero]
     exact hK'
  iterate 1
   apply Flow.calm2 _ _ rfl rfl
   · intro w' hb' K' hK'
     obtain ⟨hc', hf'⟩ := hb'.rule
     go_simp
     try go_ints
     exact hK'
   · intro K' hK'
     simp only [sqA]
     exact hK'
  iterate 1
   apply Flow.mv _ rfl
   · intro K' hK'
     simp only [sqA, Act.eval, arr_getD, List.getD_cons_zero]
     exact hK'
  iterate 2
   apply Flow.calm2 _ _ rfl rfl
   · intro w' hb' K' hK'
     obtain ⟨hc', hf'⟩ := hb'.rule
     go_simp
     try go_ints
     exact hK'
   · intro K' hK'
     simp only [sqA]
     exact hK'
  iterate 1
   apply Flow.mv _ rfl
   · intro K' hK'
     simp only [sqA, Act.eval, arr_getD, List.getD_cons_zero]
     exact hK'
  iterate 1
   apply Flow.calm2 _ _ rfl rfl
   · intro w' hb' K' hK'
     obtain ⟨hc', hf'⟩ := hb'.rule
     go_simp
     try go_ints
     exact hK'
   · intro K' hK'
     simp only [sqA]
     exact hK'
  apply Flow.move rfl
  go_wp2_with fail
  refine (when_any _ _ _).mono ?_
  rintro e w1 ⟨rfl, hw⟩
  subst hw
  have HB1 := Bl.refl w
  go_wp2_with fail
  refine ⟨fun _ => (by first | exact HB1 | exact Bl.refl _), ?_⟩
  apply Flow.move rfl
  go_wp2_with fail
  refine (when_any _ _ _).mono ?_
  rintro e w1 ⟨rfl, hw⟩
  subst hw
  have HB2 := Bl.refl w
  go_wp2_with fail
  refine ⟨fun _ => (by first | exact HB2 | exact Bl.refl _), ?_⟩
  apply Flow.move rfl
  go_wp2_with fail
  refine (HTr.out _).mono ?_
  rintro e w3 ⟨rfl, HB3⟩
  go_wp2_with fail
  refine ⟨fun _ => (by first | exact HB3 | exact Bl.refl _), ?_⟩
  iterate 1
   apply Flow.calm2 _ _ rfl rfl
   · intro w' hb' K' hK'
     obtain ⟨hc', hf'⟩ := hb'.rule
     go_simp
     try go_ints
     exact hK'
   · intro K' hK'
     simp only [sqA]
     exact hK'
  iterate 1
   apply Flow.mv _ rfl
   · intro K' hK'
     simp only [sqA, Act.eval, arr_getD, List.getD_cons_zero, List.getD_cons_succ]
     exact hK'
  first
   | (apply Flow.pass rfl (by rfl))
   | (apply Flow.calmG _ rfl (by rfl)
      · intro w' hb'
        obtain ⟨hc', hf'⟩ := hb'.rule
        go_simp
        all_goals (try rfl))
  simp only [sqA]
  try go_ints
  -- a guarded mover
  apply Flow.move rfl
  go_wp2_with fail
  first | refine ⟨fun _ => Bl.refl _, ?_⟩ | refine ⟨Bl.refl _, ?_⟩
  iterate 1
   apply Flow.calm2 _ _ rfl rfl
   · intro w' hb' K' hK'
     obtain ⟨hc', hf'⟩ := hb'.rule
     go_simp
     try go_ints
     exact hK'
   · intro K' hK'
     simp only [sqA]
     exact hK'
  apply Flow.move rfl
  go_wp2_with fail
  refine (when_any _ _ _).mono ?_
  rintro e w1 ⟨rfl, hw⟩
  subst hw
  have HB5 := Bl.refl w
  go_wp2_with fail
  refine ⟨fun _ => (by first | exact HB5 | exact Bl.refl _), ?_⟩
  apply Flow.move rfl
  go_wp2_with fail
  first | refine ⟨fun _ => ?_, ?_⟩ | refine ⟨?_, ?_⟩
  · repeat' (first | exact Bl.refl _ | refine Bl.drewL ?_ | refine Bl.drew ?_ | refine Bl.alloc ?_ _)
  apply Flow.move rfl
  go_wp2_with fail
  refine (first3_any _ _ _ _ _ (Blk.new _ _ _)).mono ?_
  rintro e w' ⟨rfl, hw⟩
  subst hw
  have HB7 := Bl.refl w
  go_wp2_with fail
  refine ⟨fun _ => (by first | exact HB7 | exact Bl.refl _), ?_⟩
  iterate 1
   apply Flow.asg _ rfl
   · intro K' hK'
     simp only [sqA, Act.eval, arr_getD, List.getD_cons_zero, List.getD_cons_succ]
     exact hK'
  refine Flow.done ?_
  go_wp2_with fail
  go_ret
  refine ⟨ret_int HE.out.symm, ?_⟩
  exact (Bl.ofDrew HB3).alloc _

end Go.Proofs.YthobmednnocklaaGreatDoor


/-! bar.Code39: the modules of a text. -/
namespace Go.Proofs.YthobmednnocklaaGreatDoor
open Go.RowKit Go.Shelf Go.Sort

def num44 (c : UInt8) : Nat := (Lib.indexByte lets44 c).toNat
def wholeL (l : List UInt8) : List UInt8 := 42 :: (l ++ chkL l ++ [42])
def ksL (l : List UInt8) : List Nat := (wholeL l).map num44
def code39 (l : List UInt8) : List UInt8 := joinC (ksL l)
theorem joinC_Z : ∀ ks : List Nat, joinC ks = joinZ (ks.map modK)
 | [] => rfl
 | [k] => rfl
 | k :: k' :: ks => by
  show modK k ++ 48 :: joinC (k' :: ks) = modK k ++ 48 :: joinZ ((k' :: ks).map modK)
  rw [joinC_Z (k' :: ks)]
theorem modFrom_append : ∀ (a b : List UInt8) (i : Nat), modFrom i (a ++ b) = modFrom i a ++ modFrom (i + a.length) b
 | [], b, i => rfl
 | c :: a, b, i => by
  show List.replicate (runOf c) (bitAt i) ++ modFrom (i + 1) (a ++ b) = (List.replicate (runOf c) (bitAt i) ++ modFrom (i + 1) a) ++ modFrom (i + (a.length + 1)) b
  rw [modFrom_append a b (i + 1), List.append_assoc, show i + 1 + a.length = i + (a.length + 1) by omega]
theorem modFrom_take {p : List UInt8} {j : Nat} {c : UInt8} (h : p[j]? = some c) : modFrom 0 (p.take (j + 1)) = modFrom 0 (p.take j) ++ List.replicate (runOf c) (bitAt j) := by
 have hlt := (List.getElem?_eq_some_iff.1 h).1
 rw [List.take_add_one, h, modFrom_append, List.length_take, Nat.min_eq_left (by omega), Nat.zero_add]
 show _ ++ (List.replicate (runOf c) (bitAt j) ++ []) = _
 rw [List.append_nil]
theorem modFrom_len : ∀ (p : List UInt8) (i : Nat), (modFrom i p).length ≤ 3 * p.length
 | [], _ => Nat.le_refl _
 | c :: p, i => by
  have ih := modFrom_len p (i + 1)
  show (List.replicate (runOf c) (bitAt i) ++ modFrom (i + 1) p).length ≤ _
  rw [List.length_append, List.length_replicate, List.length_cons]
  have : runOf c ≤ 3 := by unfold runOf; split <;> decide
  omega
theorem pieceC_at (k : Nat) (h : k < 44) : pieceC[k]? = some (pieceK k) := by
 unfold pieceK
 rw [List.getD_eq_getElem?_getD, List.getElem?_eq_getElem (show k < pieceC.length from h)]
 rfl
set_option maxRecDepth 100000 in
theorem piece_sign : ∀ k < 44, ∀ i < 9, (pieceK k).getD i 0 = 119 ∨ (pieceK k).getD i 0 = 110 := by decide +kernel
theorem piece_at {k i : Nat} (hk : k < 44) (hi : i < 9) : ∃ c, (pieceK k)[i]? = some c ∧ (c = 119 ∨ c = 110) := by
 have h9 := (modK_all k hk).2.2.2
 have hg : (pieceK k)[i]? = some (pieceK k)[i] := List.getElem?_eq_getElem (by omega)
 refine ⟨_, hg, ?_⟩
 have := piece_sign k hk i hi
 rw [List.getD_eq_getElem?_getD, hg] at this
 exact this
set_option maxRecDepth 100000 in
theorem num44_all : ∀ c ∈ lets44, num44 c < 44 ∧ Lib.indexByte lets44 c = (num44 c : Int) := by decide +kernel
theorem whole_mem {l : List UInt8} (h : lettersOk l = true) : ∀ c ∈ wholeL l, c ∈ lets44 := by
 have h43 : ∀ c ∈ lets43, c ∈ lets44 := by decide +kernel
 intro c hc
 rcases List.mem_cons.1 hc with rfl | hc
 · decide
 · rcases List.mem_append.1 hc with hc | hc
   · rcases List.mem_append.1 hc with hc | hc
     · have := List.all_eq_true.1 h c hc
       exact h43 c (by unfold isLet at this; simpa using this)
     · unfold chkL at hc
       rw [List.mem_singleton.1 hc]
       have : ∀ r < 43, lets44.getD r 0 ∈ lets44 := by decide +kernel
       exact this _ (Nat.mod_lt _ (by decide))
   · rw [List.mem_singleton.1 hc]; decide
theorem whole_len (l : List UInt8) : (wholeL l).length = l.length + 3 := by
 unfold wholeL chkL
 simp
theorem modK_succ {k i : Nat} {c : UInt8} (h : (pieceK k)[i]? = some c) : modFrom 0 ((pieceK k).take (i + 1)) = modFrom 0 ((pieceK k).take i) ++ List.replicate (runOf c) (bitAt i) := modFrom_take h
theorem mods_len : ∀ ks : List Nat, (∀ k ∈ ks, k < 44) → (joinC ks).length ≤ 16 * ks.length
 | [], _ => Nat.le_refl _
 | [k], h => by
  show (modK k).length ≤ 16
  rw [(modK_all k (h k (List.mem_cons_self ..))).1]
  decide
 | k :: k' :: ks, h => by
  have ih := mods_len (k' :: ks) (fun x hx => h x (List.mem_cons_of_mem _ hx))
  show (modK k ++ 48 :: joinC (k' :: ks)).length ≤ _
  rw [List.length_append, List.length_cons, (modK_all k (h k (List.mem_cons_self ..))).1]
  simp only [List.length_cons] at ih ⊢
  omega
theorem ksL_lt {l : List UInt8} (h : lettersOk l = true) : ∀ k ∈ ksL l, k < 44 := fun k hk => by
 obtain ⟨c, hc, rfl⟩ := List.mem_map.1 hk
 exact (num44_all c (whole_mem h c hc)).1
theorem code39_len {l : List UInt8} (h : lettersOk l = true) : (code39 l).length ≤ 16 * (l.length + 3) := by
 have := mods_len (ksL l) (ksL_lt h)
 unfold ksL at this
 rw [List.length_map, whole_len] at this
 exact this
theorem ten0 : (⟨#[49, 48]⟩ : ByteArray).extract 0 1 = ⟨#[49]⟩ := rfl
theorem ten1 : (⟨#[49, 48]⟩ : ByteArray).extract 1 2 = ⟨#[48]⟩ := rfl
theorem bytes_cell (w : World) (e : TypeId) (l : List UInt8) : ∀ (i : Nat) (c : UInt8), l[i]? = some c → (Lib.bytesWorld w e ⟨l.toArray⟩).cell? ⟨w.heap.size, i, none⟩ = some (.int .u8 (c.toNat : Int)) := fun i c h => by
 have hlt := (List.getElem?_eq_some_iff.1 h).1
 have hh := (holds_bytes w e l i (by simpa using hlt)).1
 rw [Nat.zero_add] at hh
 rw [hh]
 unfold encB
 have : l.toArray[i]! = c := by
  rw [getElem!_pos l.toArray i (by simpa using hlt)]
  have := (List.getElem?_eq_some_iff.1 h).2
  simpa using this
 rw [this]
def codeRes (l : List UInt8) : List UInt8 := if letErr l = 0 then code39 l else []
set_option maxRecDepth 100000 in
set_option maxHeartbeats 8000000 in
theorem code39_any (l : List UInt8) (w : World) (hl : l.length ≤ 9223372036854775807) (hT : SpOk w) :
 Calls Tryz.prog 129 #[.string ⟨l.toArray⟩] w fun e w' => e = .returned (.tuple #[.string ⟨(codeRes l).toArray⟩, .int .i64 (letErr l)]) ∧ Bl w w' := by
 have HT := Lib.hid hT
 have hc := fun wx => checkLet_any l wx hl
 obtain ⟨ev, hev⟩ : ∃ ev, ev = letErr l := ⟨_, rfl⟩
 rw [← hev] at hc ⊢
 by_cases h0 : ev = 0
 · subst h0
   have hv : letVal l = chkL l := by unfold letVal; rw [← hev]; rfl
   have HV := Lib.hid (show codeRes l = code39 l by unfold codeRes; rw [← hev]; rfl)
   rw [hv] at hc
   have hok : lettersOk l = true ∧ l.length ≤ 40 := by
    unfold letErr at hev
    by_cases a : l = []
    · rw [if_pos a] at hev; cases hev
    · rw [if_neg a] at hev
      by_cases b : 40 < l.length
      · rw [if_pos b] at hev; cases hev
      · rw [if_neg b] at hev
        refine ⟨?_, by omega⟩
        cases hx : lettersOk l with
        | true => rfl
        | false => rw [hx] at hev; cases hev
   obtain ⟨hok, h40⟩ := hok
   obtain ⟨X, hX⟩ : ∃ X, X = chkL l := ⟨_, rfl⟩
   have hX1 : X.length = 1 := by rw [hX]; rfl
   obtain ⟨A, hA⟩ : ∃ A, A = 42 :: l := ⟨_, rfl⟩
   obtain ⟨B, hB⟩ : ∃ A', A' = A ++ X := ⟨_, rfl⟩
   obtain ⟨W, hW⟩ : ∃ W, W = wholeL l := ⟨_, rfl⟩
   have hWl : W.length = l.length + 3 := by rw [hW, whole_len]
   have hAl : A.length = l.length + 1 := by rw [hA]; rfl
   have hBl : B.length = l.length + 2 := by rw [hB, List.length_append, hAl, hX1]
   have hcA : (⟨#[42]⟩ : ByteArray) ++ ⟨l.toArray⟩ = ⟨A.toArray⟩ := by rw [hA]; exact cat_two [42] l
   have hcB : (⟨A.toArray⟩ : ByteArray) ++ ⟨X.toArray⟩ = ⟨B.toArray⟩ := by rw [hB]; exact cat_two A X
   have hcW : (⟨B.toArray⟩ : ByteArray) ++ ⟨#[42]⟩ = ⟨W.toArray⟩ := by
    rw [show (⟨#[42]⟩ : ByteArray) = ⟨[42].toArray⟩ from rfl, cat_two, hW, hB, hA, hX]
    unfold wholeL
    simp
   have HWm := Lib.hid (show ∀ c ∈ W, c ∈ lets44 from hW ▸ whole_mem hok)
   have HC := Lib.hid (show code39 l = joinZ ((W.map num44).map modK) by rw [hW]; exact joinC_Z _)
   have HCl := Lib.hid (code39_len hok)
   rw [← hX] at hc
   have Hc := Lib.hid hc
   have hsl : (⟨l.toArray⟩ : ByteArray).size = l.length := Lib.size_mk l
   have hsX : (⟨X.toArray⟩ : ByteArray).size = X.length := Lib.size_mk X
   have hsA : (⟨A.toArray⟩ : ByteArray).size = A.length := Lib.size_mk A
   have hsB : (⟨B.toArray⟩ : ByteArray).size = B.length := Lib.size_mk B
   have hsW : (⟨W.toArray⟩ : ByteArray).size = W.length := Lib.size_mk W
   have o1 : ¬ (9223372036854775807 < 1 + l.length) := by omega
   have o2 : ¬ (9223372036854775807 < A.length + X.length) := by omega
   have o3 : ¬ (9223372036854775807 < B.length + 1) := by omega
   clear hX hA hB hW hc hok hv hev
   go_enter Tryz.func129, Tryz.ntmps129
   go_wp2_with fail
   refine (Hc.out _).mono ?_
   rintro e w1 ⟨rfl, hb1⟩
   go_wp2_with fail
   refine (pieces_any _ (HT.out.bl hb1)).mono ?_
   rintro e w2 ⟨gp, rfl, hr2, hb2⟩
   have HB2 := Lib.hid (hb1.trans hb2); have HR2 := Lib.hid hr2
   clear hb1 hb2 hr2 Hc
   go_wp2_with fail
   rw [Lib.run_convert_string_bytes w2 9 193 5 ⟨W.toArray⟩ Tryz.underlying9 Tryz.underlying193 Tryz.underlying5, Lib.size_mk]
   have hH := bytes_cell w2 5 W
   have hb3 := bl_bytes w2 5 ⟨W.toArray⟩
   obtain ⟨gb, hgb⟩ : ∃ x, x = w2.heap.size := ⟨_, rfl⟩
   obtain ⟨cp, hcp⟩ : ∃ x, x = grownCap w2 W.length 0 5 := ⟨_, rfl⟩
   rw [← hgb] at hH ⊢
   rw [← hcp]
   generalize Lib.bytesWorld w2 5 ⟨W.toArray⟩ = w3 at hH hb3 ⊢
   have HH := Lib.hid hH; have HB3 := Lib.hid (HB2.out.trans hb3); have HR3 := Lib.hid (HR2.out.bl hb3)
   clear hH hb3 hgb hcp HB2 HR2
   go_wp2_with fail
   go_loopw [7, 30] (fun s7 s30 wr => ∃ (i : Nat) (v : Value), i ≤ W.length ∧ s30 = .int .i64 (i : Int) ∧ v = s7 ∧ Bl w3 wr ∧ wr.ownsRow w3.heap.size 9 1 v i (strCells' (((W.take i).map num44).map modK))) (fun _ v _ => W.length - (RowKit.intOf v).toNat)
   case atStart => exact ⟨0, _, Nat.zero_le _, rfl, rfl, Bl.refl _, World.ownsRow_nil _ _ _ _⟩
   case round =>
    rename World => wr
    obtain ⟨i, v, hi, rfl, rfl, hbr, hown⟩ := hrel
    have HBr := Lib.hid hbr; have HOw := Lib.hid hown
    clear hbr hown
    by_cases hlt : i < W.length
    · have hg : W[i]? = some W[i] := List.getElem?_eq_getElem hlt
      obtain ⟨c, hc⟩ : ∃ c, c = W[i] := ⟨_, rfl⟩
      rw [← hc] at hg
      have hm := HWm.out c (List.mem_of_getElem? hg)
      obtain ⟨hk44, hix0⟩ := num44_all c hm
      have hix := fun wx => ixB_any lets44 c wx
      simp only [hix0] at hix
      have hts : ((W.take (i + 1)).map num44).map modK = ((W.take i).map num44).map modK ++ [modK (num44 c)] := by
       rw [List.take_add_one, hg, List.map_append, List.map_append]; rfl
      have hcell := HBr.out.at (HH.out i c hg)
      obtain ⟨k, hk⟩ : ∃ k, k = num44 c := ⟨_, rfl⟩
      rw [← hk] at hk44 hix hts
      unfold lets44 at hix
      have hltI : (i : Int) < (W.length : Int) := by omega
      have Hix := Lib.hid hix; have HTs := Lib.hid hts
      obtain ⟨adp, eap, cp0⟩ := str_at (HR3.out.bl HBr.out) (pieceC_at k hk44)
      obtain rfl := Option.some.inj eap
      rw [add_flat] at cp0
      have hkI : (k : Int) < (pieceC.length : Int) := by show (k : Int) < 44; omega
      clear hix hix0 hts hk hm hg hc
      go_wp2_with fail
      refine (Hix.out _).mono ?_
      rintro e w' ⟨rfl, hw⟩
      subst hw
      go_wp2_with fail
      go_loopw [11, 36] (fun s11 s36 wx => ∃ j : Nat, j ≤ 9 ∧ s36 = .int .i64 (j : Int) ∧ s11 = .string ⟨(modFrom 0 ((pieceK k).take j)).toArray⟩ ∧ Bl wr wx) (fun _ v _ => 9 - (RowKit.intOf v).toNat)
      case atStart => exact ⟨0, Nat.zero_le _, rfl, rfl, Bl.refl _⟩
      case round =>
       rename World => wx
       obtain ⟨j, hj, rfl, rfl, hbx⟩ := hrel
       have hml := modFrom_len ((pieceK k).take j) 0
       rw [List.length_take] at hml
       by_cases hjt : j < 9
       · obtain ⟨p, hp, hp2⟩ := piece_at hk44 hjt
         obtain ⟨n1, n2⟩ := bytes_at hp
         have hms := modK_succ hp
         obtain ⟨M, hM⟩ : ∃ M, M = modFrom 0 ((pieceK k).take j) := ⟨_, rfl⟩
         rw [← hM] at hms hml ⊢
         have hMl : M.length ≤ 27 := by omega
         have hsM : (⟨M.toArray⟩ : ByteArray).size = M.length := Lib.size_mk M
         have hcx := hbx.at cp0
         obtain ⟨q, hq⟩ : ∃ q, q = pieceK k := ⟨_, rfl⟩
         rw [← hq] at hcx
         have n1' : j < (⟨q.toArray⟩ : ByteArray).size := by rw [hq]; exact n1
         have n2' : (⟨q.toArray⟩ : ByteArray)[j]'n1' = p := by subst hq; exact n2
         have HMs := Lib.hid hms; have HBx := Lib.hid hbx
         have ht0 := ten0; have ht1 := ten1
         clear hms hM hml hp hbx n1 n2 hq
         by_cases hpar : j % 2 = 0
         · rcases hp2 with rfl | rfl
           · have HB := Lib.hid (show bitAt j = 49 by unfold bitAt; rw [if_pos hpar])
             have hmr : (j : Int) % 2 = 0 := by omega
             have hrep := fun wx => repeat_any 49 (.inr rfl) 3 (by decide) (by decide) wx
             obtain ⟨rp, hrp⟩ : ∃ r, r = List.replicate 3 (49 : UInt8) := ⟨_, rfl⟩
             have hrl : rp.length = 3 := by rw [hrp]; rfl
             simp only [← hrp] at hrep
             have Hrep := Lib.hid hrep
             have HRp := Lib.hid hrp
             have hsR : (⟨rp.toArray⟩ : ByteArray).size = rp.length := Lib.size_mk rp
             have hoR : ¬ (9223372036854775807 < M.length + rp.length) := by omega
             have hcat := cat_two M rp
             clear hrep hrp
             go_wp2_with fail
             refine (Hrep.out _).mono ?_
             rintro e w5 ⟨rfl, hb5⟩
             have HB5 := Lib.hid (HBx.out.trans hb5)
             clear hb5
             go_wp2_with fail
             exact ⟨⟨j + 1, by omega, by go_num, by rw [HMs.out, HB.out, show runOf 119 = 3 from rfl, ← HRp.out, ← hcat], HB5.out⟩, by simp [RowKit.intOf] <;> omega⟩
           · have HB := Lib.hid (show bitAt j = 49 by unfold bitAt; rw [if_pos hpar])
             have hmr : (j : Int) % 2 = 0 := by omega
             have hoR : ¬ (9223372036854775807 < M.length + 1) := by omega
             have hcat : (⟨M.toArray⟩ : ByteArray) ++ ⟨#[49]⟩ = ⟨(M ++ [49]).toArray⟩ := cat_two M [49]
             go_wp2_with fail
             exact ⟨⟨j + 1, by omega, by go_num, by rw [HMs.out, HB.out, show List.replicate (runOf 110) (49 : UInt8) = [49] from rfl, ← hcat], HBx.out⟩, by simp [RowKit.intOf] <;> omega⟩
         · rcases hp2 with rfl | rfl
           · have HB := Lib.hid (show bitAt j = 48 by unfold bitAt; rw [if_neg (by omega)])
             have hmr : (j : Int) % 2 = 1 := by omega
             have hrep := fun wx => repeat_any 48 (.inl rfl) 3 (by decide) (by decide) wx
             obtain ⟨rp, hrp⟩ : ∃ r, r = List.replicate 3 (48 : UInt8) := ⟨_, rfl⟩
             have hrl : rp.length = 3 := by rw [hrp]; rfl
             simp only [← hrp] at hrep
             have Hrep := Lib.hid hrep
             have HRp := Lib.hid hrp
             have hsR : (⟨rp.toArray⟩ : ByteArray).size = rp.length := Lib.size_mk rp
             have hoR : ¬ (9223372036854775807 < M.length + rp.length) := by omega
             have hcat := cat_two M rp
             clear hrep hrp
             go_wp2_with fail
             refine (Hrep.out _).mono ?_
             rintro e w5 ⟨rfl, hb5⟩
             have HB5 := Lib.hid (HBx.out.trans hb5)
             clear hb5
             go_wp2_with fail
             exact ⟨⟨j + 1, by omega, by go_num, by rw [HMs.out, HB.out, show runOf 119 = 3 from rfl, ← HRp.out, ← hcat], HB5.out⟩, by simp [RowKit.intOf] <;> omega⟩
           · have HB := Lib.hid (show bitAt j = 48 by unfold bitAt; rw [if_neg (by omega)])
             have hmr : (j : Int) % 2 = 1 := by omega
             have hoR : ¬ (9223372036854775807 < M.length + 1) := by omega
             have hcat : (⟨M.toArray⟩ : ByteArray) ++ ⟨#[48]⟩ = ⟨(M ++ [48]).toArray⟩ := cat_two M [48]
             go_wp2_with fail
             exact ⟨⟨j + 1, by omega, by go_num, by rw [HMs.out, HB.out, show List.replicate (runOf 110) (48 : UInt8) = [48] from rfl, ← hcat], HBx.out⟩, by simp [RowKit.intOf] <;> omega⟩
       · obtain rfl : j = 9 := by omega
         have hm9 : modFrom 0 ((pieceK k).take 9) = modK k := by
          rw [List.take_of_length_le (by rw [(modK_all k hk44).2.2.2]; omega)]
          rfl
         rw [hm9]
         obtain ⟨M, hM⟩ : ∃ M, M = modK k := ⟨_, rfl⟩
         have HTs2 := Lib.hid (show ((W.take (i + 1)).map num44).map modK = ((W.take i).map num44).map modK ++ [M] by rw [HTs.out, hM])
         rw [← hM]
         have HBx := Lib.hid hbx
         have hi43 : i ≤ 43 := by omega
         clear hm9 hM hml hbx
         go_wp2_with (at_builtin; refine wpList_append_one (w1 := w3) rfl (.tmp 58) (.tmp 60) 64 rfl 9 (.string ByteArray.empty) 16 Tryz.underlying64 info_str rfl w3.heap.size _ i _ rfl (.string ⟨M.toArray⟩) rfl rfl (HBr.out.trans HBx.out) (Nat.le_refl _) (by have := HBr.out.le; have := HBx.out.le; omega) (own_bl HOw.out HBx.out) (by omega) (by unfold maxLen; omega) ?_; intro v' w8 hown8 hb8 hg8)
         have H9 := Lib.hid (show w8.ownsRow w3.heap.size 9 1 v' (i + 1) (strCells' (((W.take (i + 1)).map num44).map modK)) by
          rw [HTs2.out]
          unfold strCells' at hown8 ⊢
          rw [List.map_append]
          exact hown8)
         have HB8 := Lib.hid hb8
         clear hown8 hb8 hg8
         go_wp2_with fail
         exact ⟨⟨i + 1, v', by omega, by go_num, rfl, HB8.out, H9.out⟩, by simp [RowKit.intOf] <;> omega⟩
    · obtain rfl : i = W.length := by omega
      rw [List.take_length] at HOw
      obtain ⟨ts, hts⟩ : ∃ ts, ts = (W.map num44).map modK := ⟨_, rfl⟩
      have htl : ts.length = W.length := by rw [hts, List.length_map, List.length_map]
      rw [← hts] at HOw
      have HCd := Lib.hid (show code39 l = joinZ ts by rw [HC.out, hts])
      have hjl := HCl.out
      rw [HCd.out] at hjl
      obtain ⟨g7, c7, hv, -, hcap⟩ := own_some HOw.out (by omega)
      obtain ⟨A7, c7', hv', hrd⟩ := own_reads HOw.out
      rw [hv] at hv'
      injection hv' with e1 e2 e3
      subst e1
      subst e3
      have hjn := joinZ_any (some ⟨g7, 0, none⟩) c7 ts wr (by rw [htl]; exact hrd) (by omega) (by omega) (by omega)
      rw [htl] at hjn
      have Hjn := Lib.hid hjn
      subst hv
      have hnl : ¬ ((W.length : Int) < (l.length : Int) + 3) := by omega
      clear hjn hrd hts htl hjl hcap hWl
      go_wp2_with fail
      refine Hjn.out.mono ?_
      rintro e w9 ⟨rfl, hb9⟩
      go_wp2_with fail
      exact bodyPost_ret (v := .tuple #[.string ⟨(joinZ ts).toArray⟩, .int .i64 0]) (by simp [results, Tryz.results129, go_sem]) rfl ⟨by rw [HV.out, HCd.out], (HB3.out.trans HBr.out).trans hb9⟩
 · have HV := Lib.hid (show codeRes l = [] by unfold codeRes; rw [if_neg (by rw [← hev]; exact h0)])
   have hv : letVal l = [] := by unfold letVal; rw [if_neg (by rw [← hev]; exact h0)]
   rw [hv] at hc
   have Hc := Lib.hid hc
   have hq : (ev != 0) = true := by rw [bne_iff_ne]; exact h0
   clear hc hv hev
   go_enter Tryz.func129, Tryz.ntmps129
   go_wp2_with fail
   refine (Hc.out _).mono ?_
   rintro e w1 ⟨rfl, hb1⟩
   go_wp2_with fail
   exact bodyPost_ret (v := .tuple #[.string ⟨#[]⟩, .int .i64 ev]) (by simp [results, Tryz.results129, go_sem]) rfl ⟨by rw [HV.out], hb1⟩

end Go.Proofs.YthobmednnocklaaGreatDoor


/-! bedref2.Code39Of: the modules of a right text. -/
namespace Go.Proofs.YthobmednnocklaaGreatDoor
open Go.RowKit Go.Shelf Go.Sort

set_option maxRecDepth 100000 in
set_option maxHeartbeats 8000000 in
theorem code39Of_any (l : List UInt8) (w : World) (h40 : l.length ≤ 40) (hok : lettersOk l = true) (hT : SpOk w) :
 Calls Tryz.prog 155 #[.string ⟨l.toArray⟩] w fun e w' => e = .returned (.string ⟨(code39 l).toArray⟩) ∧ Bl w w' := by
 have HT := Lib.hid hT
 have hc := fun wx => checkLetterOf_any l wx (by omega) hok
 obtain ⟨X, hX⟩ : ∃ X, X = chkL l := ⟨_, rfl⟩
 have hX1 : X.length = 1 := by rw [hX]; rfl
 obtain ⟨A, hA⟩ : ∃ A, A = 42 :: l := ⟨_, rfl⟩
 obtain ⟨B, hB⟩ : ∃ A', A' = A ++ X := ⟨_, rfl⟩
 obtain ⟨W, hW⟩ : ∃ W, W = wholeL l := ⟨_, rfl⟩
 have hWl : W.length = l.length + 3 := by rw [hW, whole_len]
 have hAl : A.length = l.length + 1 := by rw [hA]; rfl
 have hBl : B.length = l.length + 2 := by rw [hB, List.length_append, hAl, hX1]
 have hcA : (⟨#[42]⟩ : ByteArray) ++ ⟨l.toArray⟩ = ⟨A.toArray⟩ := by rw [hA]; exact cat_two [42] l
 have hcB : (⟨A.toArray⟩ : ByteArray) ++ ⟨X.toArray⟩ = ⟨B.toArray⟩ := by rw [hB]; exact cat_two A X
 have hcW : (⟨B.toArray⟩ : ByteArray) ++ ⟨#[42]⟩ = ⟨W.toArray⟩ := by
  rw [show (⟨#[42]⟩ : ByteArray) = ⟨[42].toArray⟩ from rfl, cat_two, hW, hB, hA, hX]
  unfold wholeL
  simp
 have HWm := Lib.hid (show ∀ c ∈ W, c ∈ lets44 from hW ▸ whole_mem hok)
 have HC := Lib.hid (show code39 l = joinZ ((W.map num44).map modK) by rw [hW]; exact joinC_Z _)
 have HCl := Lib.hid (code39_len hok)
 rw [← hX] at hc
 have Hc := Lib.hid hc
 have hsl : (⟨l.toArray⟩ : ByteArray).size = l.length := Lib.size_mk l
 have hsX : (⟨X.toArray⟩ : ByteArray).size = X.length := Lib.size_mk X
 have hsA : (⟨A.toArray⟩ : ByteArray).size = A.length := Lib.size_mk A
 have hsB : (⟨B.toArray⟩ : ByteArray).size = B.length := Lib.size_mk B
 have hsW : (⟨W.toArray⟩ : ByteArray).size = W.length := Lib.size_mk W
 have o1 : ¬ (9223372036854775807 < 1 + l.length) := by omega
 have o2 : ¬ (9223372036854775807 < A.length + X.length) := by omega
 have o3 : ¬ (9223372036854775807 < B.length + 1) := by omega
 have hW43 : W.length ≤ 43 := by omega
 have hW1 : 1 ≤ W.length := by omega
 have HWl := Lib.hid hWl
 clear hX hA hB hW hc hok hT hWl
 go_enter Tryz.func155, Tryz.ntmps155
 go_wp2_with fail
 refine (Hc.out _).mono ?_
 rintro e w1 ⟨rfl, hw1⟩
 subst hw1
 go_wp2_with fail
 go_loopw [3, 18] (fun s7 s30 wr => ∃ (i : Nat) (v : Value), i ≤ W.length ∧ s30 = .int .i64 (i : Int) ∧ v = s7 ∧ Bl w wr ∧ wr.ownsRow w.heap.size 9 1 v i (strCells' (((W.take i).map num44).map modK))) (fun _ v _ => W.length - (RowKit.intOf v).toNat)
 case atStart => exact ⟨0, _, Nat.zero_le _, rfl, rfl, Bl.refl _, World.ownsRow_nil _ _ _ _⟩
 case round =>
  rename World => wr
  obtain ⟨i, v, hi, rfl, rfl, hbr, hown⟩ := hrel
  have HBr := Lib.hid hbr; have HOw := Lib.hid hown
  clear hbr hown
  by_cases hlt : i < W.length
  · have hg : W[i]? = some W[i] := List.getElem?_eq_getElem hlt
    obtain ⟨c, hc⟩ : ∃ c, c = W[i] := ⟨_, rfl⟩
    rw [← hc] at hg
    obtain ⟨m1, m2⟩ := bytes_at hg
    have hm := HWm.out c (List.mem_of_getElem? hg)
    obtain ⟨hk44, hix0⟩ := num44_all c hm
    have hix := fun wx => ixB_any lets44 c wx
    simp only [hix0] at hix
    have hts : ((W.take (i + 1)).map num44).map modK = ((W.take i).map num44).map modK ++ [modK (num44 c)] := by
     rw [List.take_add_one, hg, List.map_append, List.map_append]; rfl
    obtain ⟨k, hk⟩ : ∃ k, k = num44 c := ⟨_, rfl⟩
    rw [← hk] at hk44 hix hts
    unfold lets44 at hix
    have hltI : (i : Int) < (W.length : Int) := by omega
    have Hix := Lib.hid hix; have HTs := Lib.hid hts
    have hkI : (k : Int) < (pieceC.length : Int) := by show (k : Int) < 44; omega
    obtain ⟨q, hq⟩ : ∃ q, q = pieceK k := ⟨_, rfl⟩
    have HPk := Lib.hid (show pieceC[k]? = some q from hq ▸ pieceC_at k hk44)
    have HQ := Lib.hid hq
    clear hix hix0 hts hk hm hg hc hq
    go_upto_region 7 with fail
    refine wp_region_flow [(true, 1), (true, 2), (true, 3), (false, 0), (false, 4), (true, 5), (true, 6), (false, 7)] (fun _ => false) (by kernel_rfl) (by kernel_rfl) (by kernel_rfl) (by kernel_rfl) ?_
    iterate 2
     apply Flow.mv _ rfl
     · intro K' hK'
       simp only [sqA, Act.eval, arr_getD, List.getD_cons_zero, List.getD_cons_succ]
       exact hK'
    iterate 1
     apply Flow.calm2 _ _ rfl rfl
     · intro w' hb' K' hK'
       obtain ⟨hc', hf'⟩ := hb'.rule
       go_simp
       try go_ints
       exact hK'
     · intro K' hK'
       simp only [sqA]
       exact hK'
    apply Flow.move rfl
    go_wp2_with fail
    refine (wide39_any _ (HT.out.bl HBr.out.drew)).mono ?_
    rintro e w5 ⟨gp, rfl, hr5, HB1⟩
    go_wp2_with fail
    refine ⟨fun _ => (by first | exact HB1 | exact Bl.refl _), ?_⟩
    apply Flow.move rfl
    go_wp2_with fail
    refine (Hix.out _).mono ?_
    rintro e w' ⟨rfl, hw⟩
    subst hw
    have HB2 := HB1
    obtain ⟨adp, eap, cp0⟩ := str_at hr5 HPk.out
    obtain rfl := Option.some.inj eap
    rw [add_flat] at cp0
    go_wp2_with fail
    refine ⟨fun _ => (by first | exact HB2 | exact Bl.refl _), ?_⟩
    iterate 2
     apply Flow.calm2 _ _ rfl rfl
     · intro w' hb' K' hK'
       obtain ⟨hc', hf'⟩ := hb'.rule
       go_simp
       try go_ints
       exact hK'
     · intro K' hK'
       simp only [sqA]
       exact hK'
    apply Flow.move rfl
    go_wp2_with fail
    first | refine ⟨fun _ => ?_, ?_⟩ | refine ⟨?_, ?_⟩
    · repeat' (first | exact Bl.refl _ | refine Bl.drewL ?_ | refine Bl.drew ?_ | refine Bl.alloc ?_ _)
    refine Flow.done ?_
    have HB5 := Lib.hid (Bl.ofDrew HB1)
    clear HB1 HB2 hr5 cp0
    have hsq : (⟨q.toArray⟩ : ByteArray).size = 9 := by rw [Lib.size_mk, HQ.out]; exact (modK_all k hk44).2.2.2
    obtain ⟨K, hK⟩ : ∃ K, K = w5.heap.size := ⟨_, rfl⟩
    obtain ⟨w6, hw6⟩ : ∃ x, x = w5.iter ⟨q.toArray⟩ 0 := ⟨_, rfl⟩
    have hit : w6.heap[K]? = some (.stringIter ⟨q.toArray⟩ 0) := by
     rw [hw6, hK]
     exact heap_alloc_new w5 (.stringIter ⟨q.toArray⟩ 0)
    have hb6 : Bl w5 w6 := by rw [hw6]; exact (Bl.refl w5).alloc _
    rw [← hw6]
    try rw [← hK]
    have HK := Lib.hid hK
    have Hst0 := Lib.hid (And.intro hit hb6)
    clear hw6 hK hit hb6
    go_wp2_with fail
    go_loopw [6] (fun s6 wi => ∃ j : Nat, j ≤ 9 ∧ s6 = .string ⟨(modFrom 0 (q.take j)).toArray⟩ ∧ wi.heap[K]? = some (.stringIter ⟨q.toArray⟩ j) ∧ Bl w5 wi) (fun _ wi => 9 - wi.iterPos K)
    case atStart => exact ⟨0, Nat.zero_le _, rfl, Hst0.out⟩
    case round =>
     rename World => wi
     obtain ⟨j, hj, rfl, hit, hbi⟩ := hrel
     by_cases hjt : j < 9
     · have hjh : j < (⟨q.toArray⟩ : ByteArray).size := by rw [hsq]; exact hjt
       have hgj := Lib.getElem_mk q j hjh
       obtain ⟨p, hp⟩ : ∃ p, p = (⟨q.toArray⟩ : ByteArray)[j]'hjh := ⟨_, rfl⟩
       rw [← hp] at hgj
       obtain ⟨p', hp', hp2⟩ := piece_at hk44 hjt
       rw [← HQ.out, hgj] at hp'
       obtain rfl := Option.some.inj hp'
       have hnx0 := fun ty => Lib.run_next_ascii_at (P := Tryz.prog) wi K ⟨q.toArray⟩ j ty hit hjh (by rw [← hp]; rcases hp2 with rfl | rfl <;> decide)
       have h7b : Bl w5 (wi.iterAt K ⟨q.toArray⟩ (j + 1)) := Lib.below_iterAt hbi (k := K) (by have := HK.out; omega) _ _
       have h7i := Lib.iterAt_heap wi K ⟨q.toArray⟩ j (j + 1) hit
       rw [← hp] at hnx0
       generalize wi.iterAt K ⟨q.toArray⟩ (j + 1) = w7 at hnx0 h7b h7i
       have hnx : ∀ ty, (Instr.next (.pointer (some ⟨K, 0, none⟩)) true ty).run Tryz.prog wi = .ok (.tuple #[.bool true, .int .i64 (j : Int), .int .i32 (p.toNat : Int)]) w7 := hnx0
       have hms := modFrom_take hgj
       have hml := modFrom_len (q.take j) 0
       rw [List.length_take] at hml
       obtain ⟨M, hM⟩ : ∃ M, M = modFrom 0 (q.take j) := ⟨_, rfl⟩
       rw [← hM] at hms hml ⊢
       have hMl : M.length ≤ 27 := by omega
       have hsM : (⟨M.toArray⟩ : ByteArray).size = M.length := Lib.size_mk M
       have HMs := Lib.hid hms
       have HN := Lib.hid (And.intro h7i h7b); have Hit := Lib.hid hit
       have ht0 := ten0; have ht1 := ten1
       clear hms hM hml hp hnx0 h7b h7i hit hbi hgj hp'
       by_cases hpar : j % 2 = 0
       · rcases hp2 with rfl | rfl
         · have HB := Lib.hid (show bitAt j = 49 by unfold bitAt; rw [if_pos hpar])
           have hmr : (j : Int) % 2 = 0 := by omega
           have hrep := fun wx => repeat_any 49 (.inr rfl) 3 (by decide) (by decide) wx
           obtain ⟨rp, hrp⟩ : ∃ r, r = List.replicate 3 (49 : UInt8) := ⟨_, rfl⟩
           have hrl : rp.length = 3 := by rw [hrp]; rfl
           simp only [← hrp] at hrep
           have Hrep := Lib.hid hrep
           have HRp := Lib.hid hrp
           have hsR : (⟨rp.toArray⟩ : ByteArray).size = rp.length := Lib.size_mk rp
           have hoR : ¬ (9223372036854775807 < M.length + rp.length) := by omega
           have hcat := cat_two M rp
           clear hrep hrp
           go_wp2_with fail
           refine (Hrep.out _).mono ?_
           rintro e w8 ⟨rfl, hb8⟩
           have hkl : K < w7.heap.size := (Array.getElem?_eq_some_iff.1 HN.out.1).1
           have HN8 := Lib.hid (show w8.heap[K]? = some (.stringIter ⟨q.toArray⟩ (j + 1)) from (Below.block hb8 K hkl).trans HN.out.1)
           have HB8 := Lib.hid (HN.out.2.trans hb8)
           clear hb8 hkl
           go_wp2_with fail
           exact ⟨⟨j + 1, by omega, by rw [HMs.out, HB.out, show runOf 119 = 3 from rfl, ← HRp.out, ← hcat], HN8.out, HB8.out⟩, by simp only [World.iterPos, HN8.out, Hit.out]; omega⟩
         · have HB := Lib.hid (show bitAt j = 49 by unfold bitAt; rw [if_pos hpar])
           have hmr : (j : Int) % 2 = 0 := by omega
           have hoR : ¬ (9223372036854775807 < M.length + 1) := by omega
           have hcat : (⟨M.toArray⟩ : ByteArray) ++ ⟨#[49]⟩ = ⟨(M ++ [49]).toArray⟩ := cat_two M [49]
           go_wp2_with fail
           exact ⟨⟨j + 1, by omega, by rw [HMs.out, HB.out, show List.replicate (runOf 110) (49 : UInt8) = [49] from rfl, ← hcat], HN.out.1, HN.out.2⟩, by simp only [World.iterPos, HN.out.1, Hit.out]; omega⟩
       · rcases hp2 with rfl | rfl
         · have HB := Lib.hid (show bitAt j = 48 by unfold bitAt; rw [if_neg (by omega)])
           have hmr : (j : Int) % 2 = 1 := by omega
           have hrep := fun wx => repeat_any 48 (.inl rfl) 3 (by decide) (by decide) wx
           obtain ⟨rp, hrp⟩ : ∃ r, r = List.replicate 3 (48 : UInt8) := ⟨_, rfl⟩
           have hrl : rp.length = 3 := by rw [hrp]; rfl
           simp only [← hrp] at hrep
           have Hrep := Lib.hid hrep
           have HRp := Lib.hid hrp
           have hsR : (⟨rp.toArray⟩ : ByteArray).size = rp.length := Lib.size_mk rp
           have hoR : ¬ (9223372036854775807 < M.length + rp.length) := by omega
           have hcat := cat_two M rp
           clear hrep hrp
           go_wp2_with fail
           refine (Hrep.out _).mono ?_
           rintro e w8 ⟨rfl, hb8⟩
           have hkl : K < w7.heap.size := (Array.getElem?_eq_some_iff.1 HN.out.1).1
           have HN8 := Lib.hid (show w8.heap[K]? = some (.stringIter ⟨q.toArray⟩ (j + 1)) from (Below.block hb8 K hkl).trans HN.out.1)
           have HB8 := Lib.hid (HN.out.2.trans hb8)
           clear hb8 hkl
           go_wp2_with fail
           exact ⟨⟨j + 1, by omega, by rw [HMs.out, HB.out, show runOf 119 = 3 from rfl, ← HRp.out, ← hcat], HN8.out, HB8.out⟩, by simp only [World.iterPos, HN8.out, Hit.out]; omega⟩
         · have HB := Lib.hid (show bitAt j = 48 by unfold bitAt; rw [if_neg (by omega)])
           have hmr : (j : Int) % 2 = 1 := by omega
           have hoR : ¬ (9223372036854775807 < M.length + 1) := by omega
           have hcat : (⟨M.toArray⟩ : ByteArray) ++ ⟨#[48]⟩ = ⟨(M ++ [48]).toArray⟩ := cat_two M [48]
           go_wp2_with fail
           exact ⟨⟨j + 1, by omega, by rw [HMs.out, HB.out, show List.replicate (runOf 110) (48 : UInt8) = [48] from rfl, ← hcat], HN.out.1, HN.out.2⟩, by simp only [World.iterPos, HN.out.1, Hit.out]; omega⟩
     · obtain rfl : j = 9 := by omega
       have hnx : ∀ ty, (Instr.next (.pointer (some ⟨K, 0, none⟩)) true ty).run Tryz.prog wi = .ok (.tuple #[.bool false]) wi := fun ty => Lib.run_next_end_at wi K ⟨q.toArray⟩ 9 ty hit (by rw [hsq]; omega)
       have hm9 : modFrom 0 (q.take 9) = modK k := by
        rw [HQ.out, List.take_of_length_le (by rw [(modK_all k hk44).2.2.2]; omega)]
        rfl
       rw [hm9]
       have HBi := Lib.hid (HB5.out.trans hbi)
       clear hm9 hit hbi
       obtain ⟨M, hM⟩ : ∃ M, M = modK k := ⟨_, rfl⟩
       have HTs2 := Lib.hid (show ((W.take (i + 1)).map num44).map modK = ((W.take i).map num44).map modK ++ [M] by rw [HTs.out, hM])
       rw [← hM]
       have hi43 : i ≤ 43 := by omega
       clear hM
       go_wp2_with (at_builtin; refine wpList_append_one (w1 := w) rfl (.tmp 46) (.tmp 48) 64 rfl 9 (.string ByteArray.empty) 16 Tryz.underlying64 info_str rfl w.heap.size _ i _ rfl (.string ⟨M.toArray⟩) rfl rfl (HBr.out.trans HBi.out) (Nat.le_refl _) (by have := HBr.out.le; have := HBi.out.le; omega) (own_bl HOw.out HBi.out) (by omega) (by unfold maxLen; omega) ?_; intro v' w8 hown8 hb8 hg8)
       have H9 := Lib.hid (show w8.ownsRow w.heap.size 9 1 v' (i + 1) (strCells' (((W.take (i + 1)).map num44).map modK)) by
        rw [HTs2.out]
        unfold strCells' at hown8 ⊢
        rw [List.map_append]
        exact hown8)
       have HB8 := Lib.hid hb8
       clear hown8 hb8 hg8
       go_wp2_with fail
       exact ⟨⟨i + 1, v', by omega, by go_num, rfl, HB8.out, H9.out⟩, by simp [RowKit.intOf] <;> omega⟩
  · obtain rfl : i = W.length := by omega
    rw [List.take_length] at HOw
    obtain ⟨ts, hts⟩ : ∃ ts, ts = (W.map num44).map modK := ⟨_, rfl⟩
    have htl : ts.length = W.length := by rw [hts, List.length_map, List.length_map]
    rw [← hts] at HOw
    have HCd := Lib.hid (show code39 l = joinZ ts by rw [HC.out, hts])
    have hjl := HCl.out
    rw [HCd.out] at hjl
    obtain ⟨g7, c7, hv, -, hcap⟩ := own_some HOw.out (by omega)
    obtain ⟨A7, c7', hv', hrd⟩ := own_reads HOw.out
    rw [hv] at hv'
    injection hv' with e1 e2 e3
    subst e1
    subst e3
    have hjn := joinZ_any (some ⟨g7, 0, none⟩) c7 ts wr (by rw [htl]; exact hrd) (by omega) (by omega) (by omega)
    rw [htl] at hjn
    have Hjn := Lib.hid hjn
    subst hv
    clear hjn hrd hts htl hjl hcap
    go_wp2_with fail
    refine Hjn.out.mono ?_
    rintro e w9 ⟨rfl, hb9⟩
    go_wp2_with fail
    go_ret
    exact ⟨by rw [HCd.out]; rfl, HBr.out.trans hb9⟩

end Go.Proofs.YthobmednnocklaaGreatDoor
