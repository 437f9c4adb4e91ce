/- bar.EAN and bedref2.EANOf: the modules of 13 digits. -/
import Derived.Test.YtkipcobpnecmhaaGreatDoorMClaimTopCodes24
import Derived.Test.YtkipcobpnecmhaaGreatDoorMClaimTopCodes18
import Derived.Test.YtkipcobpnecmhaaGreatDoorMClaimTopCodes1
import Derived.Test.YtkipcobpnecmhaaGreatDoorMClaimTopCodes13
import Derived.Test.YtkipcobpnecmhaaGreatDoorMClaimTopCodes0
import Derived.Test.YtkipcobpnecmhaaGreatDoorMClaimTopCodes10
import Derived.Test.YtkipcobpnecmhaaGreatDoorMClaimTopCodes17
import Derived.Shelf.Strings.Fields
import Derived.Shelf.SlicesG.Turned
import Derived.Shelf.SlGeneric
import Derived.Ground.SlgnProg
import Derived.Shelf.Strings.Split
import Derived.Lib.Split
import Derived.Lib.CountLaws
import Derived.Lib.IndexMore
import Derived.Lib.Strings

namespace Go.Proofs
open Go.Shelf
def Tryz.lays157_ren : Go.Shelf.Ren := ⟨fun | 157 => 54 | 229 => 98 | 199 => 99 | 261 => 128 | 311 => 152 | 312 => 153 | n => n, fun | 9 => 9 | 31 => 54 | 3 => 3 | 5 => 5 | 4 => 4 | 119 => 123 | 0 => 0 | 40 => 125 | 152 => 141 | 21 => 21 | 154 => 143 | 51 => 126 | 141 => 145 | 196 => 170 | 193 => 167 | 198 => 173 | 49 => 171 | 194 => 168 | 201 => 176 | 226 => 185 | 46 => 41 | 227 => 186 | n => n, fun | 0 => 0 | 6 => 1 | n => n⟩
theorem Tryz.lays157 : Go.Proofs.Lays.n157 Tryz.prog Tryz.lays157_ren := {
  mixed := by kernel_rfl
  f157 := Tryz.func54.trans (congrArg some (by kernel_rfl))
  f199 := Tryz.func99.trans (congrArg some (by kernel_rfl))
  f229 := Tryz.func98.trans (congrArg some (by kernel_rfl))
  f261 := Tryz.func128.trans (congrArg some (by kernel_rfl))
  f311 := Tryz.func152.trans (congrArg some (by kernel_rfl))
  f312 := Tryz.func153.trans (congrArg some (by kernel_rfl))
  t0 := Tryz.underlying0
  a0 := Tryz.isAgg0
  z0 := Tryz.sizeOf0
  v0 := Tryz.zeroValue0
  t3 := Tryz.underlying3
  a3 := Tryz.isAgg3
  z3 := Tryz.sizeOf3
  v3 := Tryz.zeroValue3
  t4 := Tryz.underlying4
  a4 := Tryz.isAgg4
  z4 := Tryz.sizeOf4
  v4 := Tryz.zeroValue4
  t5 := Tryz.underlying5
  a5 := Tryz.isAgg5
  z5 := Tryz.sizeOf5
  v5 := Tryz.zeroValue5
  t9 := Tryz.underlying9
  a9 := Tryz.isAgg9
  z9 := Tryz.sizeOf9
  v9 := Tryz.zeroValue9
  t21 := Tryz.underlying21
  a21 := Tryz.isAgg21
  z21 := Tryz.sizeOf21
  v21 := Tryz.zeroValue21
  t31 := Tryz.underlying54
  a31 := Tryz.isAgg54
  z31 := Tryz.sizeOf54
  v31 := Tryz.zeroValue54
  t40 := Tryz.underlying125
  a40 := Tryz.isAgg125
  z40 := Tryz.sizeOf125
  v40 := Tryz.zeroValue125
  t46 := Tryz.underlying41
  a46 := Tryz.isAgg41
  z46 := Tryz.sizeOf41
  v46 := Tryz.zeroValue41
  t49 := Tryz.underlying171
  a49 := Tryz.isAgg171
  z49 := Tryz.sizeOf171
  v49 := Tryz.zeroValue171
  t51 := Tryz.underlying126
  a51 := Tryz.isAgg126
  z51 := Tryz.sizeOf126
  v51 := Tryz.zeroValue126
  t119 := Tryz.underlying123
  a119 := Tryz.isAgg123
  z119 := Tryz.sizeOf123
  t141 := Tryz.underlying145
  a141 := Tryz.isAgg145
  z141 := Tryz.sizeOf145
  v141 := Tryz.zeroValue145
  t152 := Tryz.underlying141
  a152 := Tryz.isAgg141
  z152 := Tryz.sizeOf141
  v152 := Tryz.zeroValue141
  t154 := Tryz.underlying143
  a154 := Tryz.isAgg143
  z154 := Tryz.sizeOf143
  v154 := Tryz.zeroValue143
  t193 := Tryz.underlying167
  a193 := Tryz.isAgg167
  z193 := Tryz.sizeOf167
  v193 := Tryz.zeroValue167
  t194 := Tryz.underlying168
  a194 := Tryz.isAgg168
  z194 := Tryz.sizeOf168
  v194 := Tryz.zeroValue168
  t196 := Tryz.underlying170
  a196 := Tryz.isAgg170
  z196 := Tryz.sizeOf170
  v196 := Tryz.zeroValue170
  t198 := Tryz.underlying173
  a198 := Tryz.isAgg173
  z198 := Tryz.sizeOf173
  v198 := Tryz.zeroValue173
  t201 := Tryz.underlying176
  a201 := Tryz.isAgg176
  z201 := Tryz.sizeOf176
  v201 := Tryz.zeroValue176
  t226 := Tryz.underlying185
  a226 := Tryz.isAgg185
  z226 := Tryz.sizeOf185
  v226 := Tryz.zeroValue185
  t227 := Tryz.underlying186
  a227 := Tryz.isAgg186
  z227 := Tryz.sizeOf186
  v227 := Tryz.zeroValue186
  g0 := by kernel_rfl
  g6 := by kernel_rfl }

def Tryz.laysIdxS_ren : Go.Shelf.Ren := ⟨fun | 30 => 121 | n => n, fun | 25 => 54 | 26 => 9 | 3 => 3 | 0 => 0 | 4 => 4 | n => n, fun | n => n⟩
theorem Tryz.laysIdxS : Go.Proofs.SlLaysN.n30 Tryz.prog Tryz.laysIdxS_ren := {
  mixed := by kernel_rfl
  f30 := ⟨Tryz.f121.name, by decide, Tryz.func121.trans (congrArg some (by kernel_rfl))⟩
  t0 := Tryz.underlying0
  a0 := Tryz.isAgg0
  z0 := Tryz.sizeOf0
  v0 := Tryz.zeroValue0
  t3 := Tryz.underlying3
  a3 := Tryz.isAgg3
  z3 := Tryz.sizeOf3
  v3 := Tryz.zeroValue3
  t4 := Tryz.underlying4
  a4 := Tryz.isAgg4
  z4 := Tryz.sizeOf4
  v4 := Tryz.zeroValue4
  t25 := Tryz.underlying54
  a25 := Tryz.isAgg54
  z25 := Tryz.sizeOf54
  v25 := Tryz.zeroValue54
  t26 := Tryz.underlying9
  a26 := Tryz.isAgg9
  z26 := Tryz.sizeOf9
  v26 := Tryz.zeroValue9 }

end Go.Proofs
namespace Go.Proofs.YtkipcobpnecmhaaGreatDoor
open Go.RowKit Go.Shelf

theorem exchange1 (c : UInt8) (hc : c = 48 ∨ c = 49) : (97 : Int) - (c.toNat : Int) = ((97 - c).toNat : Int) := by rcases hc with rfl | rfl <;> rfl
set_option maxRecDepth 100000 in
theorem exchangedF_any (c : UInt8) (w : World) (hc : c = 48 ∨ c = 49) : Calls Tryz.prog 52 #[.int .i32 (c.toNat : Int)] w fun e w' => e = .returned (.int .i32 ((97 - c).toNat : Int)) ∧ w = w' := by
  have HE := Lib.hid (exchange1 c hc)
  have h0 : 48 ≤ (c.toNat : Int) := by rcases hc with rfl | rfl <;> decide
  have h1 : (c.toNat : Int) ≤ 49 := by rcases hc with rfl | rfl <;> decide
  clear hc
  go_enter Tryz.func52, Tryz.ntmps52
  go_wp2_with fail
  go_ret
  exact ⟨congrArg (fun z => Ending.returned (Value.int .i32 z)) HE.out, rfl⟩
set_option maxRecDepth 100000 in
theorem exchanged_any (d : Nat) (hd : d < 10) (w : World) : Calls Tryz.prog 27 #[.string ⟨(leftC.getD d []).toArray⟩] w fun e w' => e = .returned (.string ⟨(exB (leftC.getD d [])).toArray⟩) ∧ Bl w w' := by
  obtain ⟨c, l, hcl⟩ : ∃ c l, leftC.getD d [] = c :: l := by
    cases h : leftC.getD d [] with
    | nil =>
      have : ∀ d < 10, leftC.getD d [] ≠ [] := by decide
      exact absurd h (this d hd)
    | cons c l => exact ⟨c, l, rfl⟩
  have hm : madeOf (c :: l) [48, 49] = true := by
    rw [← hcl]
    have : ∀ d < 10, madeOf (leftC.getD d []) [48, 49] = true := by decide +kernel
    exact this d hd
  have hl : l.length ≤ 1000 := by
    have h1 : ∀ d < 10, (leftC.getD d []).length = 7 := by decide
    have := h1 d hd
    rw [hcl, List.length_cons] at this
    omega
  rw [hcl]
  have H := Lib.hid (map_any 52 (enters Tryz.func52 (by kernel_rfl) rfl) (fun c W hc => exchangedF_any c W hc) c l hm hl w)
  clear hcl hm
  go_enter Tryz.func27, Tryz.ntmps27
  go_wp2_with fail
  refine H.out.mono ?_
  rintro e w1 ⟨rfl, hb⟩
  go_wp2_with fail
  go_ret
  exact ⟨rfl, hb⟩
/-! ### tables -/
/-- A table of ten texts. -/
def TxtRes (ts : List (List UInt8)) (w : World) (e : Ending) (w' : World) : Prop := ∃ g : Nat, e = .returned (.slice (some ⟨g, 0, none⟩) ts.length ts.length) ∧ Reads w' 1 (some ⟨g, 0, none⟩) ts.length (strCells' ts) ∧ Bl w w'
set_option maxRecDepth 100000 in
set_option maxHeartbeats 1000000 in
theorem leftCodes_any (w : World) : Calls Tryz.prog 26 #[] w (TxtRes leftC w) := by
  go_enter Tryz.func26, Tryz.ntmps26
  go_wp2_with fail
  go_ret
  exact ⟨_, rfl, (Blk.new w 9 (strCells' leftC).toArray).reads 10 1 rfl, (Bl.refl w).alloc _⟩
set_option maxRecDepth 100000 in
set_option maxHeartbeats 1000000 in
theorem firstCodes_any (w : World) : Calls Tryz.prog 25 #[] w (TxtRes firstC w) := by
  go_enter Tryz.func25, Tryz.ntmps25
  go_wp2_with fail
  go_ret
  exact ⟨_, rfl, (Blk.new w 9 (strCells' firstC).toArray).reads 10 1 rfl, (Bl.refl w).alloc _⟩
/-- The library's table of spaces. -/
def SpOk (w : World) : Prop := ∀ c : Nat, c < 256 → w.cell? ⟨Tryz.lays157_ren.g 0, c, none⟩ = some (.int .u8 (if Lib.isSp (UInt8.ofNat c) then 1 else 0))
theorem SpOk.bl {w w' : World} (h : SpOk w) (hb : Bl w w') : SpOk w' := fun c hc => hb.at (h c hc)
theorem fields_any (s : List UInt8) (ts : List (List UInt8)) (hs : s.length < 4294967281) (hascii : ∀ b ∈ s, b.toNat < 128) (hts : Lib.fields s = ts) (w : World) (hT : SpOk w) : Calls Tryz.prog 54 #[.string ⟨s.toArray⟩] w (TxtRes ts w) := by
  have h := Any.strings_Fields_core Tryz.lays157 (by kernel_rfl) ⟨s.toArray⟩ w (by rw [Lib.size_mk]; exact hs) (fun j b hb => hascii b (List.mem_of_getElem? hb)) hT
  refine Calls.mono (R := fun e w' => e = .returned (.slice (some ⟨w.heap.size, 0, none⟩) (Lib.fields s).length (Lib.fields s).length) ∧ w' = w.alloc (.cells ((Lib.fields s).map fun l => Value.string ⟨l.toArray⟩).toArray 9)) h ?_
  rintro e w' ⟨rfl, rfl⟩
  rw [hts]
  exact ⟨_, rfl, (Blk.new w 9 (strCells' ts).toArray).reads ts.length 1 (by unfold strCells'; simp), (Bl.refl w).alloc _⟩
/-! ### where a row stands in the table -/
theorem idxFromS_find (x : List UInt8) : ∀ (zs : List (List UInt8)) (i : Nat), Lib.idxFromS (zs.map fun l => (⟨l.toArray⟩ : ByteArray)) ⟨x.toArray⟩ i = match zs.findIdx? (· == x) with | some k => ((i + k : Nat) : Int) | none => -1
  | [], i => rfl
  | y :: l, i => by
    rw [List.map_cons, List.findIdx?_cons]
    unfold Lib.idxFromS
    by_cases hp : y = x
    · subst hp
      simp
    · have h1 : (⟨y.toArray⟩ : ByteArray) ≠ ⟨x.toArray⟩ := fun e => hp (by simpa using e)
      have h2 : (y == x) = false := by simpa using hp
      rw [if_neg h1, h2]
      simp only [Bool.false_eq_true, if_false]
      rw [idxFromS_find x l (i + 1)]
      cases l.findIdx? (· == x) with
      | none => rfl
      | some k => simp only [Option.map_some]; congr 1; omega
theorem idxS_find (zs : List (List UInt8)) (x : List UInt8) : Lib.idxOfS (zs.map fun l => (⟨l.toArray⟩ : ByteArray)) ⟨x.toArray⟩ = match zs.findIdx? (· == x) with | some k => (k : Int) | none => -1 := by
  unfold Lib.idxOfS
  rw [idxFromS_find]
  cases zs.findIdx? (· == x) with
  | none => rfl
  | some k => simp
theorem indexRow_any (g : Nat) (zs : List (List UInt8)) (x : List UInt8) (w : World) (hr : Reads w 1 (some ⟨g, 0, none⟩) zs.length (strCells' zs)) (hn : zs.length ≤ 1000) :
    Calls Tryz.prog 121 #[.slice (some ⟨g, 0, none⟩) zs.length zs.length, .string ⟨x.toArray⟩] w fun e w' => e = .returned (.int .i64 (match zs.findIdx? (· == x) with | some k => (k : Int) | none => -1)) ∧ w = w' := by
  have h := AnyG.slices_Index_string Tryz.laysIdxS g 0 zs.length zs.length (zs.map fun l => (⟨l.toArray⟩ : ByteArray)) ⟨x.toArray⟩ w (by simp) (by omega) (fun j hj => by
    rw [List.length_map] at hj
    obtain ⟨t, ht⟩ : ∃ t, zs[j]? = some t := ⟨_, List.getElem?_eq_getElem hj⟩
    obtain ⟨ad, e, hc⟩ := str_at hr ht
    obtain rfl := Option.some.inj e
    rw [List.getD_eq_getElem?_getD, List.getElem?_map, ht, Nat.zero_add]
    rw [add_flat] at hc
    exact hc)
  rw [show (zs.map fun l => (⟨l.toArray⟩ : ByteArray)).take zs.length = zs.map fun l => (⟨l.toArray⟩ : ByteArray) from List.take_of_length_le (by simp), idxS_find] at h
  refine Calls.mono (R := fun e w' => e = .returned (.int .i64 (match zs.findIdx? (· == x) with | some k => (k : Int) | none => -1)) ∧ w' = w) h ?_
  rintro e w' ⟨rfl, rfl⟩
  exact ⟨rfl, rfl⟩

end Go.Proofs.YtkipcobpnecmhaaGreatDoor


/-! bar.EAN, bedref2.EANOf, bedref2.CheckOf, bedref2.Digits. -/
namespace Go.Proofs.YtkipcobpnecmhaaGreatDoor
open Go.RowKit Go.Shelf

/-- A digit's sign. -/
theorem digit_at {ds : List UInt8} (hm : madeOf ds digits10 = true) {i : Nat} (hi : i < ds.length) : ∃ b, ds[i]? = some b ∧ 48 ≤ b.toNat ∧ b.toNat ≤ 57 ∧ digOf ds i = b.toNat - 48 := by
  have hg : ds[i]? = some ds[i] := List.getElem?_eq_getElem hi
  obtain ⟨h1, h2⟩ := made_at hm hg
  refine ⟨_, hg, h1, h2, ?_⟩
  unfold digOf
  rw [List.getD_eq_getElem?_getD, hg]
  rfl
theorem digit_byte {ds : List UInt8} (hm : madeOf ds digits10 = true) {i : Nat} (hi : i < ds.length) : ∃ b, ds[i]? = some b ∧ (b.toNat : Int) = 48 + (digOf ds i : Int) ∧ digOf ds i ≤ 9 := by
  obtain ⟨b, h1, h2, h3, h4⟩ := digit_at hm hi
  exact ⟨b, h1, by omega, by omega⟩
end Go.Proofs.YtkipcobpnecmhaaGreatDoor


/-! bar.EAN and bedref2.EANOf: the modules of 13 digits. -/
namespace Go.Proofs.YtkipcobpnecmhaaGreatDoor
open Go.RowKit Go.Shelf

def eanErr (l : List UInt8) : Int := if digB l 13 = true then (if checkOf (l.take 12) = digOf l 12 then 0 else 14) else 2
def eanVal (l : List UInt8) : List UInt8 := if eanErr l = 0 then eanOf l else []
theorem slice_ab (l : List UInt8) (a b : Nat) : (⟨l.toArray⟩ : ByteArray).extract a b = ⟨((l.drop a).take (b - a)).toArray⟩ := by
  apply ByteArray.ext
  rw [ByteArray.data_extract]
  apply Array.toList_inj.1
  simp only [Array.toList_extract, List.extract_eq_take_drop]
theorem cat_two (a b : List UInt8) : (⟨a.toArray⟩ : ByteArray) ++ ⟨b.toArray⟩ = ⟨(a ++ b).toArray⟩ := by
  apply ByteArray.ext
  simp [ByteArray.data_append]
theorem eanPart_len (ds : List UInt8) (hd : ∀ i, digOf ds i ≤ 9) : ∀ i, (eanPart ds i).length ≤ 3 + 12 * i
  | 0 => Nat.le_refl _
  | i + 1 => by
    have ih := eanPart_len ds hd i
    have h1 := codeOf_len (kindE ds (i + 1)) (digOf ds (i + 1)) (by have := hd (i + 1); omega)
    show (eanPart ds i ++ (if i = 6 then midE else []) ++ codeOf (kindE ds (i + 1)) (digOf ds (i + 1))).length ≤ _
    rw [List.length_append, List.length_append, h1]
    have : (if i = 6 then midE else []).length ≤ 5 := by split <;> decide
    omega
theorem leftC_at (d : Nat) (h : d < 10) : leftC[d]? = some (leftC.getD d []) := by
  rw [List.getD_eq_getElem?_getD, List.getElem?_eq_getElem (show d < leftC.length from h)]
  rfl
theorem firstC_at (d : Nat) (h : d < 10) : firstC[d]? = some (firstC.getD d []) := by
  rw [List.getD_eq_getElem?_getD, List.getElem?_eq_getElem (show d < firstC.length from h)]
  rfl
theorem row_at (ds : List UInt8) (hd : digOf ds 0 ≤ 9) (j : Nat) (hj : j < 6) : ∃ c, (rowE ds)[j]? = some c ∧ (c = 76 ∨ c = 71) ∧ kindE ds (j + 1) = c := by
  have h : ∀ d < 10, ∀ i < 6, (firstC.getD d []).length = 6 ∧ ((firstC.getD d []).getD i 0 = 76 ∨ (firstC.getD d []).getD i 0 = 71) := by decide +kernel
  obtain ⟨h1, h2⟩ := h (digOf ds 0) (by omega) j hj
  refine ⟨(rowE ds).getD j 0, ?_, h2, ?_⟩
  · have hj' : j < (rowE ds).length := by unfold rowE; rw [h1]; exact hj
    rw [List.getD_eq_getElem?_getD, List.getElem?_eq_getElem hj']
    rfl
  · unfold kindE
    rw [if_neg (by omega), Nat.add_sub_cancel]
theorem codeOf_left (d : Nat) : codeOf 76 d = leftC.getD d [] := rfl
theorem ex_len (d : Nat) (h : d < 10) : (exB (leftC.getD d [])).length = 7 := codeOf_len 82 d h
set_option maxRecDepth 100000 in
set_option maxHeartbeats 4000000 in
theorem ean_any (l : List UInt8) (w : World) (hl : l.length ≤ 9223372036854775807) :
    Calls Tryz.prog 6 #[.string ⟨l.toArray⟩] w fun e w' => e = .returned (.tuple #[.string ⟨(eanVal l).toArray⟩, .int .i64 (eanErr l)]) ∧ Bl w w' := by
  have Hd := Lib.hid (areDigits_any l 13 w hl (by decide))
  have hsz : (⟨l.toArray⟩ : ByteArray).size = l.length := Lib.size_mk l
  obtain ⟨db, hdb⟩ : ∃ db, db = digB l 13 := ⟨_, rfl⟩
  rw [← hdb] at Hd
  go_enter Tryz.func6, Tryz.ntmps6
  go_wp2_with fail
  refine Hd.out.mono ?_
  rintro e w1 ⟨rfl, hb1⟩
  clear Hd
  cases db with
  | false =>
    have hE : eanErr l = 2 := by unfold eanErr; rw [← hdb]; rfl
    have HV := Lib.hid (show eanVal l = [] by unfold eanVal; rw [hE]; rfl)
    have HE := Lib.hid hE
    clear hE hdb
    go_wp2_with fail
    exact bodyPost_ret (v := .tuple #[.string ⟨#[]⟩, .int .i64 2]) (by simp [results, Tryz.results6, go_sem]) rfl ⟨by rw [HV.out, HE.out], hb1⟩
  | true =>
    have hd := hdb.symm
    unfold digB at hd
    simp only [Bool.and_eq_true, decide_eq_true_eq] at hd
    obtain ⟨hlen, hm⟩ := hd
    have hEE : eanErr l = if checkOf (l.take 12) = digOf l 12 then 0 else 14 := by unfold eanErr; rw [← hdb]; rfl
    have HM := Lib.hid hm; have HLen := Lib.hid hlen
    have hlenI : (l.length : Int) = 13 := by omega
    have ht12 : (l.take 12).length = 12 := by rw [List.length_take]; omega
    have hdt : digB (l.take 12) 12 = true := by
      unfold digB
      rw [decide_eq_true ht12]
      unfold madeOf at hm ⊢
      rw [List.all_eq_true] at hm
      show ((l.take 12).all fun b => digits10.contains b) = true
      rw [List.all_eq_true]
      exact fun b hb => hm b (List.mem_of_mem_take hb)
    have hck := fun wx => checkDigit_any (l.take 12) wx (by omega)
    rw [hdt] at hck
    simp only [if_true] at hck
    have hex : (⟨l.toArray⟩ : ByteArray).extract 0 12 = ⟨(l.take 12).toArray⟩ := slice_ab l 0 12
    obtain ⟨b12, hg12, hb12, hd12⟩ := digit_byte hm (i := 12) (by omega)
    obtain ⟨k1, k2⟩ := bytes_at hg12
    obtain ⟨ck, hckk⟩ : ∃ ck, ck = checkOf (l.take 12) := ⟨_, rfl⟩
    obtain ⟨d12, hd12e⟩ : ∃ d, d = digOf l 12 := ⟨_, rfl⟩
    rw [← hckk] at hck hEE
    rw [← hd12e] at hb12 hd12 hEE
    have Hck := Lib.hid hck; have HEE := Lib.hid hEE
    clear hck hEE hm hlen hdt hdb ht12 hg12 hckk hd12e
    go_wp2_with fail
    refine (Hck.out _).mono ?_
    rintro e w2 ⟨rfl, hb2⟩
    have HB2 := Lib.hid (hb1.trans hb2)
    clear Hck hb1 hb2
    by_cases hq : ck = d12
    · have HE := Lib.hid (HEE.out.trans (if_pos hq))
      have HV := Lib.hid (show eanVal l = eanOf l by unfold eanVal; rw [HE.out]; rfl)
      subst hq
      obtain ⟨b0, hg0, hb0, hd0⟩ := digit_byte HM.out (i := 0) (by have := HLen.out; omega)
      obtain ⟨k01, k02⟩ := bytes_at hg0
      obtain ⟨rw0, hrw⟩ : ∃ r, r = rowE l := ⟨_, rfl⟩
      have HRow := Lib.hid hrw
      obtain ⟨d0, hdd0⟩ : ∃ d, d = digOf l 0 := ⟨_, rfl⟩
      rw [← hdd0] at hb0 hd0
      have HRw := Lib.hid (show firstC.getD d0 [] = rw0 by rw [hrw, hdd0]; rfl)
      have hs0 : (48 : Int) + (d0 : Int) - 48 = (d0 : Int) := by omega
      have hs1 : (48 : Int) ≤ 48 + (d0 : Int) := by omega
      have hs2 : (d0 : Int) < (firstC.length : Int) := by show (d0 : Int) < 10; omega
      clear HEE hg0 hrw hdd0
      go_upto_region 6 with fail
      refine wp_region_flow [(true, 1), (true, 2), (true, 3), (false, 0), (true, 4), (true, 5), (true, 6)] (fun _ => false) (by kernel_rfl) (by kernel_rfl) (by kernel_rfl) (by kernel_rfl) ?_
      iterate 1
        apply Flow.mv _ rfl
        · intro K' hK'
          simp only [Act.put, Act.eval, List.setIfInBounds_toArray, List.set_cons_zero, List.set_cons_succ, arr_getD, List.getD_cons_zero]
          exact hK'
      iterate 1
        apply Flow.calm2 _ _ rfl rfl
        · intro w' hb' K' hK'
          obtain ⟨hc', hf'⟩ := hb'.rule
          go_simp
          try go_ints
          exact hK'
        · intro K' hK'
          simp only [Act.put, List.setIfInBounds_toArray, List.set_cons_zero, List.set_cons_succ]
          exact hK'
      iterate 1
        apply Flow.calm2 _ _ rfl rfl
        · intro w' hb' K' hK'
          obtain ⟨hc', hf'⟩ := hb'.rule
          go_simp
          try go_ints
          exact hK'
        · intro K' hK'
          simp only [Act.put, List.setIfInBounds_toArray, List.set_cons_zero, List.set_cons_succ]
          exact hK'
      apply Flow.move rfl
      go_wp2_with fail
      refine (firstCodes_any _).mono ?_
      rintro e w6 ⟨g, rfl, hr6, HB1⟩
      obtain ⟨ad6, e6, c6⟩ := str_at hr6 (firstC_at d0 (by omega))
      obtain rfl := Option.some.inj e6
      rw [add_flat, HRw.out] at c6
      go_wp2_with fail
      refine ⟨fun _ => (by first | exact HB1 | exact Bl.refl _), ?_⟩
      iterate 1
        apply Flow.calm2 _ _ rfl rfl
        · intro w' hb' K' hK'
          obtain ⟨hc', hf'⟩ := hb'.rule
          go_simp
          try go_ints
          exact hK'
        · intro K' hK'
          simp only [Act.put, List.setIfInBounds_toArray, List.set_cons_zero, List.set_cons_succ]
          exact hK'
      iterate 1
        apply Flow.calm2 _ _ rfl rfl
        · intro w' hb' K' hK'
          obtain ⟨hc', hf'⟩ := hb'.rule
          go_simp
          try go_ints
          exact hK'
        · intro K' hK'
          simp only [Act.put, List.setIfInBounds_toArray, List.set_cons_zero, List.set_cons_succ]
          exact hK'
      iterate 1
        apply Flow.asg _ rfl
        · intro K' hK'
          simp only [Act.put, Act.eval, List.setIfInBounds_toArray, List.set_cons_zero, List.set_cons_succ, arr_getD, List.getD_cons_zero, List.getD_cons_succ]
          exact hK'
      refine Flow.done ?_
      have HB6 := Lib.hid (HB2.out.trans (Bl.ofDrew HB1))
      clear hr6 c6 HB1 HB2
      go_wp2_with fail
      have HD := Lib.hid (digOf_le HM.out)
      go_loopw [7, 8] (fun s7 s8 wr => ∃ i j : Nat, i = j + 1 ∧ j ≤ 12 ∧ s8 = .int .i64 (i : Int) ∧ s7 = .string ⟨(eanPart l j).toArray⟩ ∧ Bl w wr) (fun _ v _ => 13 - (RowKit.intOf v).toNat)
      case atStart => exact ⟨1, 0, rfl, by omega, rfl, rfl, HB6.out⟩
      case round =>
        rename World => wr
        obtain ⟨i, j, hij, hj, rfl, rfl, hbr⟩ := hrel
        have HBr := Lib.hid hbr
        clear hbr
        have hpl := eanPart_len l HD.out j
        by_cases hlt : j < 12
        · have hd9 := HD.out i
          obtain ⟨b, hg, hb, -⟩ := digit_byte HM.out (i := i) (by have := HLen.out; omega)
          obtain ⟨m1, m2⟩ := bytes_at hg
          have hst : eanPart l (j + 1) = eanPart l j ++ (if j = 6 then midE else []) ++ codeOf (kindE l (j + 1)) (digOf l (j + 1)) := rfl
          rw [← hij] at hst
          obtain ⟨P, hP⟩ : ∃ P, P = eanPart l j := ⟨_, rfl⟩
          obtain ⟨d, hd⟩ : ∃ d, d = digOf l i := ⟨_, rfl⟩
          rw [← hP] at hst hpl ⊢
          rw [← hd] at hst hb hd9
          have hi13 : (i : Int) < 13 := by omega
          have hi0 : (0 : Int) ≤ (i : Int) := by omega
          have q0 : (48 : Int) + (d : Int) - 48 = (d : Int) := by omega
          have q1 : (48 : Int) ≤ 48 + (d : Int) := by omega
          have q2 : (d : Int) < (leftC.length : Int) := by show (d : Int) < 10; omega
          have hL7 := codeOf_len 76 d (by omega)
          rw [codeOf_left] at hL7
          have hE7 := ex_len d (by omega)
          have hF7 : (exB (leftC.getD d [])).reverse.length = 7 := by rw [List.length_reverse]; exact hE7
          have hcE := fun wx => exchanged_any d (by omega) wx
          have hcF := fun wx => backwards_any (exB (leftC.getD d [])) wx (by omega)
          unfold FlipRes at hcF
          obtain ⟨E, hE⟩ : ∃ E, E = exB (leftC.getD d []) := ⟨_, rfl⟩
          obtain ⟨F, hF⟩ : ∃ F, F = E.reverse := ⟨_, rfl⟩
          rw [← hE] at hE7 hF7 hcE hcF
          rw [← hF] at hF7 hcF
          obtain ⟨L, hL⟩ : ∃ L, L = leftC.getD d [] := ⟨_, rfl⟩
          rw [← hL] at hL7 hcE
          have HL := Lib.hid (show leftC[d]? = some L from hL ▸ leftC_at d (by omega))
          have HcE := Lib.hid hcE; have HcF := Lib.hid hcF
          have hsP : (⟨P.toArray⟩ : ByteArray).size = P.length := Lib.size_mk P
          have hsL : (⟨L.toArray⟩ : ByteArray).size = L.length := Lib.size_mk L
          have hsE : (⟨E.toArray⟩ : ByteArray).size = E.length := Lib.size_mk E
          have hsF : (⟨F.toArray⟩ : ByteArray).size = F.length := Lib.size_mk F
          have hoL : ¬ (9223372036854775807 < P.length + L.length) := by omega
          have hoE : ¬ (9223372036854775807 < P.length + E.length) := by omega
          have hoF : ¬ (9223372036854775807 < P.length + F.length) := by omega
          have HHL := Lib.hid (show codeOf 76 d = L from hL.symm)
          have HHE := Lib.hid (show codeOf 82 d = E from hE.symm)
          have HHF := Lib.hid (show codeOf 71 d = F by rw [hF, hE]; rfl)
          clear hP hd hg hE hF hL hcE hcF
          by_cases h6 : j < 6
          · obtain ⟨c, hrc, hc, hk⟩ := row_at l (by have := HD.out 0; omega) j h6
            rw [← HRow.out] at hrc
            obtain ⟨n1, n2⟩ := bytes_at hrc
            have hjm : (i : Int) - 1 = (j : Int) := by omega
            have hq7 : ((i : Int) == 7) = false := by rw [beq_eq_false_iff_ne]; omega
            have hlt7 : (i : Int) < 7 := by omega
            rw [← hij] at hk
            rw [if_neg (show ¬ j = 6 by omega), List.append_nil, hk] at hst
            have HIJ := Lib.hid hij; have HSt := Lib.hid hst
            clear hst hij hk hrc
            go_upto_region 13 with fail
            refine wp_region_flow [(true, 1), (true, 2), (true, 3), (true, 4), (false, 0), (true, 5), (true, 6), (true, 7)] (fun _ => false) (by kernel_rfl) (by kernel_rfl) (by kernel_rfl) (by kernel_rfl) ?_
            iterate 2
              apply Flow.mv _ rfl
              · intro K' hK'
                simp only [Act.put, Act.eval, List.setIfInBounds_toArray, List.set_cons_zero, List.set_cons_succ, arr_getD, List.getD_cons_zero, List.getD_cons_succ]
                exact hK'
            iterate 1
              apply Flow.calm2 _ _ rfl rfl
              · intro w' hb' K' hK'
                obtain ⟨hc', hf'⟩ := hb'.rule
                go_simp
                try go_ints
                exact hK'
              · intro K' hK'
                simp only [Act.put, List.setIfInBounds_toArray, List.set_cons_zero, List.set_cons_succ]
                exact hK'
            iterate 1
              apply Flow.calm2 _ _ rfl rfl
              · intro w' hb' K' hK'
                obtain ⟨hc', hf'⟩ := hb'.rule
                go_simp
                try go_ints
                exact hK'
              · intro K' hK'
                simp only [Act.put, List.setIfInBounds_toArray, List.set_cons_zero, List.set_cons_succ]
                exact hK'
            apply Flow.move rfl
            go_wp2_with fail
            refine (leftCodes_any _).mono ?_
            rintro e w6 ⟨g, rfl, hr6, HB1⟩
            obtain ⟨ad6, e6, c6⟩ := str_at hr6 HL.out
            obtain rfl := Option.some.inj e6
            rw [add_flat] at c6
            go_wp2_with fail
            refine ⟨fun _ => (by first | exact HB1 | exact Bl.refl _), ?_⟩
            iterate 1
              apply Flow.calm2 _ _ rfl rfl
              · intro w' hb' K' hK'
                obtain ⟨hc', hf'⟩ := hb'.rule
                go_simp
                try go_ints
                exact hK'
              · intro K' hK'
                simp only [Act.put, List.setIfInBounds_toArray, List.set_cons_zero, List.set_cons_succ]
                exact hK'
            iterate 1
              apply Flow.calm2 _ _ rfl rfl
              · intro w' hb' K' hK'
                obtain ⟨hc', hf'⟩ := hb'.rule
                go_simp
                try go_ints
                exact hK'
              · intro K' hK'
                simp only [Act.put, List.setIfInBounds_toArray, List.set_cons_zero, List.set_cons_succ]
                exact hK'
            iterate 1
              apply Flow.asg _ rfl
              · intro K' hK'
                simp only [Act.put, Act.eval, List.setIfInBounds_toArray, List.set_cons_zero, List.set_cons_succ, arr_getD, List.getD_cons_zero, List.getD_cons_succ]
                exact hK'
            refine Flow.done ?_
            have HB7 := Lib.hid (HBr.out.trans (Bl.ofDrew HB1))
            clear hr6 c6 HB1 HBr
            rcases hc with rfl | rfl
            · have HSn := Lib.hid (HSt.out.trans (by rw [HHL.out]))
              have hcat := cat_two P L
              clear HSt
              go_wp2_with fail
              exact ⟨⟨i + 1, i, rfl, by omega, by go_num, by rw [HSn.out, ← hcat], HB7.out⟩, by simp [RowKit.intOf] <;> omega⟩
            · have HSn := Lib.hid (HSt.out.trans (by rw [HHF.out]))
              have hcat := cat_two P F
              clear HSt
              go_wp2_with fail
              refine (HcE.out _).mono ?_
              rintro e w8 ⟨rfl, hb8⟩
              have HB8 := Lib.hid (HB7.out.trans hb8)
              clear hb8 HB7
              go_wp2_with fail
              refine (HcF.out _).mono ?_
              rintro e w9 ⟨rfl, hb9⟩
              have HB9 := Lib.hid (HB8.out.trans hb9)
              clear hb9 HB8
              go_wp2_with fail
              exact ⟨⟨i + 1, i, rfl, by omega, by go_num, by rw [HSn.out, ← hcat], HB9.out⟩, by simp [RowKit.intOf] <;> omega⟩
          · have hk : kindE l i = 82 := by rw [hij]; exact kindE_high l j (by omega)
            rw [hk, HHE.out] at hst
            have hge7 : (7 : Int) ≤ (i : Int) := by omega
            have hnl7 : ¬ ((i : Int) < 7) := by omega
            by_cases h7 : j = 6
            · rw [if_pos h7] at hst
              have hi7 : i = 7 := by omega
              have hq7 : ((i : Int) == 7) = true := by rw [beq_iff_eq]; omega
              have hoM : ¬ (9223372036854775807 < P.length + 5) := by omega
              have hcM : (⟨P.toArray⟩ : ByteArray) ++ ⟨#[48, 49, 48, 49, 48]⟩ = ⟨(P ++ midE).toArray⟩ := cat_two P midE
              have hlM : (P ++ midE).length = P.length + 5 := by rw [List.length_append]; rfl
              obtain ⟨Q, hQ⟩ : ∃ Q, Q = P ++ midE := ⟨_, rfl⟩
              rw [← hQ] at hcM hlM hst
              have hsQ : (⟨Q.toArray⟩ : ByteArray).size = Q.length := Lib.size_mk Q
              have hoQ : ¬ (9223372036854775807 < Q.length + E.length) := by omega
              have HSn := Lib.hid hst
              have hcat := cat_two Q E
              have HIJ := Lib.hid hij; have HI7 := Lib.hid hi7
              have hj6 : j ≤ 6 := by omega
              clear hQ hst hij hi7 h7 h6 hk hlM
              go_upto_region 13 with fail
              refine wp_region_flow [(true, 1), (true, 2), (true, 3), (true, 4), (false, 0), (true, 5), (true, 6), (true, 7)] (fun _ => false) (by kernel_rfl) (by kernel_rfl) (by kernel_rfl) (by kernel_rfl) ?_
              iterate 2
                apply Flow.mv _ rfl
                · intro K' hK'
                  simp only [Act.put, Act.eval, List.setIfInBounds_toArray, List.set_cons_zero, List.set_cons_succ, arr_getD, List.getD_cons_zero, List.getD_cons_succ]
                  exact hK'
              iterate 1
                apply Flow.calm2 _ _ rfl rfl
                · intro w' hb' K' hK'
                  obtain ⟨hc', hf'⟩ := hb'.rule
                  go_simp
                  try go_ints
                  exact hK'
                · intro K' hK'
                  simp only [Act.put, List.setIfInBounds_toArray, List.set_cons_zero, List.set_cons_succ]
                  exact hK'
              iterate 1
                apply Flow.calm2 _ _ rfl rfl
                · intro w' hb' K' hK'
                  obtain ⟨hc', hf'⟩ := hb'.rule
                  go_simp
                  try go_ints
                  exact hK'
                · intro K' hK'
                  simp only [Act.put, List.setIfInBounds_toArray, List.set_cons_zero, List.set_cons_succ]
                  exact hK'
              apply Flow.move rfl
              go_wp2_with fail
              refine (leftCodes_any _).mono ?_
              rintro e w6 ⟨g, rfl, hr6, HB1⟩
              obtain ⟨ad6, e6, c6⟩ := str_at hr6 HL.out
              obtain rfl := Option.some.inj e6
              rw [add_flat] at c6
              go_wp2_with fail
              refine ⟨fun _ => (by first | exact HB1 | exact Bl.refl _), ?_⟩
              iterate 1
                apply Flow.calm2 _ _ rfl rfl
                · intro w' hb' K' hK'
                  obtain ⟨hc', hf'⟩ := hb'.rule
                  go_simp
                  try go_ints
                  exact hK'
                · intro K' hK'
                  simp only [Act.put, List.setIfInBounds_toArray, List.set_cons_zero, List.set_cons_succ]
                  exact hK'
              iterate 1
                apply Flow.calm2 _ _ rfl rfl
                · intro w' hb' K' hK'
                  obtain ⟨hc', hf'⟩ := hb'.rule
                  go_simp
                  try go_ints
                  exact hK'
                · intro K' hK'
                  simp only [Act.put, List.setIfInBounds_toArray, List.set_cons_zero, List.set_cons_succ]
                  exact hK'
              iterate 1
                apply Flow.asg _ rfl
                · intro K' hK'
                  simp only [Act.put, Act.eval, List.setIfInBounds_toArray, List.set_cons_zero, List.set_cons_succ, arr_getD, List.getD_cons_zero, List.getD_cons_succ]
                  exact hK'
              refine Flow.done ?_
              have HB7 := Lib.hid (HBr.out.trans (Bl.ofDrew HB1))
              clear hr6 c6 HB1 HBr
              go_wp2_with fail
              refine (HcE.out _).mono ?_
              rintro e w8 ⟨rfl, hb8⟩
              have HB8 := Lib.hid (HB7.out.trans hb8)
              clear hb8 HB7
              go_wp2_with fail
              exact ⟨⟨i + 1, i, rfl, by have := HIJ.out; omega, by go_num, by rw [HSn.out, ← hcat], HB8.out⟩, by simp [RowKit.intOf] <;> omega⟩
            · rw [if_neg h7, List.append_nil] at hst
              have hq7 : ((i : Int) == 7) = false := by rw [beq_eq_false_iff_ne]; omega
              have HSn := Lib.hid hst
              have hcat := cat_two P E
              have HIJ := Lib.hid hij; have H7 := Lib.hid h7
              clear hst hij h7 hk
              go_upto_region 13 with fail
              refine wp_region_flow [(true, 1), (true, 2), (true, 3), (true, 4), (false, 0), (true, 5), (true, 6), (true, 7)] (fun _ => false) (by kernel_rfl) (by kernel_rfl) (by kernel_rfl) (by kernel_rfl) ?_
              iterate 2
                apply Flow.mv _ rfl
                · intro K' hK'
                  simp only [Act.put, Act.eval, List.setIfInBounds_toArray, List.set_cons_zero, List.set_cons_succ, arr_getD, List.getD_cons_zero, List.getD_cons_succ]
                  exact hK'
              iterate 1
                apply Flow.calm2 _ _ rfl rfl
                · intro w' hb' K' hK'
                  obtain ⟨hc', hf'⟩ := hb'.rule
                  go_simp
                  try go_ints
                  exact hK'
                · intro K' hK'
                  simp only [Act.put, List.setIfInBounds_toArray, List.set_cons_zero, List.set_cons_succ]
                  exact hK'
              iterate 1
                apply Flow.calm2 _ _ rfl rfl
                · intro w' hb' K' hK'
                  obtain ⟨hc', hf'⟩ := hb'.rule
                  go_simp
                  try go_ints
                  exact hK'
                · intro K' hK'
                  simp only [Act.put, List.setIfInBounds_toArray, List.set_cons_zero, List.set_cons_succ]
                  exact hK'
              apply Flow.move rfl
              go_wp2_with fail
              refine (leftCodes_any _).mono ?_
              rintro e w6 ⟨g, rfl, hr6, HB1⟩
              obtain ⟨ad6, e6, c6⟩ := str_at hr6 HL.out
              obtain rfl := Option.some.inj e6
              rw [add_flat] at c6
              go_wp2_with fail
              refine ⟨fun _ => (by first | exact HB1 | exact Bl.refl _), ?_⟩
              iterate 1
                apply Flow.calm2 _ _ rfl rfl
                · intro w' hb' K' hK'
                  obtain ⟨hc', hf'⟩ := hb'.rule
                  go_simp
                  try go_ints
                  exact hK'
                · intro K' hK'
                  simp only [Act.put, List.setIfInBounds_toArray, List.set_cons_zero, List.set_cons_succ]
                  exact hK'
              iterate 1
                apply Flow.calm2 _ _ rfl rfl
                · intro w' hb' K' hK'
                  obtain ⟨hc', hf'⟩ := hb'.rule
                  go_simp
                  try go_ints
                  exact hK'
                · intro K' hK'
                  simp only [Act.put, List.setIfInBounds_toArray, List.set_cons_zero, List.set_cons_succ]
                  exact hK'
              iterate 1
                apply Flow.asg _ rfl
                · intro K' hK'
                  simp only [Act.put, Act.eval, List.setIfInBounds_toArray, List.set_cons_zero, List.set_cons_succ, arr_getD, List.getD_cons_zero, List.getD_cons_succ]
                  exact hK'
              refine Flow.done ?_
              have HB7 := Lib.hid (HBr.out.trans (Bl.ofDrew HB1))
              clear hr6 c6 HB1 HBr
              go_wp2_with fail
              refine (HcE.out _).mono ?_
              rintro e w8 ⟨rfl, hb8⟩
              have HB8 := Lib.hid (HB7.out.trans hb8)
              clear hb8 HB7
              go_wp2_with fail
              exact ⟨⟨i + 1, i, rfl, by have := HIJ.out; omega, by go_num, by rw [HSn.out, ← hcat], HB8.out⟩, by simp [RowKit.intOf] <;> omega⟩
        · obtain rfl : j = 12 := by omega
          have hi13 : ¬ ((i : Int) < 13) := by omega
          have hfin : eanOf l = eanPart l 12 ++ endE := rfl
          obtain ⟨P, hP⟩ : ∃ P, P = eanPart l 12 := ⟨_, rfl⟩
          rw [← hP] at hfin hpl ⊢
          have hsP : (⟨P.toArray⟩ : ByteArray).size = P.length := Lib.size_mk P
          have hoM : ¬ (9223372036854775807 < P.length + 3) := by omega
          have HV2 := Lib.hid (HV.out.trans hfin)
          have hcM : (⟨P.toArray⟩ : ByteArray) ++ ⟨#[49, 48, 49]⟩ = ⟨(P ++ endE).toArray⟩ := cat_two P endE
          clear hP hfin
          go_wp2_with fail
          exact bodyPost_ret (v := .tuple #[.string ⟨(P ++ endE).toArray⟩, .int .i64 0]) (by simp [results, Tryz.results6, go_sem]) rfl ⟨by rw [HV2.out, HE.out], HBr.out⟩
    · have HE := Lib.hid (HEE.out.trans (if_neg hq))
      have HV := Lib.hid (show eanVal l = [] by unfold eanVal; rw [HE.out]; rfl)
      have hq' : (ck : Int) ≠ (d12 : Int) := by omega
      clear HEE hq
      go_wp2_with fail
      exact bodyPost_ret (v := .tuple #[.string ⟨#[]⟩, .int .i64 14]) (by simp [results, Tryz.results6, go_sem]) rfl ⟨by rw [HV.out, HE.out], HB2.out⟩

end Go.Proofs.YtkipcobpnecmhaaGreatDoor
