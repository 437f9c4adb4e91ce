/- bar.EAN and bedref2.EANOf: the modules of 13 digits. -/
import Derived.Test.YtkipcobpnecmhaaGreatDoorMClaimBarCodes24
import Derived.Test.YtkipcobpnecmhaaGreatDoorMClaimBarCodes17
import Derived.Test.YtkipcobpnecmhaaGreatDoorMClaimBarCodes1
import Derived.Test.YtkipcobpnecmhaaGreatDoorMClaimBarCodes0
import Derived.Test.YtkipcobpnecmhaaGreatDoorMClaimBarCodes12
import Derived.Test.YtkipcobpnecmhaaGreatDoorMClaimBarCodes11
import Derived.Test.YtkipcobpnecmhaaGreatDoorMClaimBarCodes2
import Derived.Test.YtkipcobpnecmhaaGreatDoorMClaimBarCodes3
import Derived.Test.YtkipcobpnecmhaaGreatDoorMClaimBarCodes9
import Derived.Test.YtkipcobpnecmhaaGreatDoorMClaimBarCodes16
import Derived.Shelf.Strings.Fields
import Derived.Shelf.SlicesG.Turned
import Derived.Shelf.SlGeneric
import Derived.Ground.SlgnProg
import Derived.Shelf.Strings.Split
import Derived.Lib.Split
import Derived.Lib.CountLaws
import Derived.Lib.IndexMore
import Derived.Lib.Strings

namespace Go.Proofs
open Go.Shelf
def Tryz.lays157_ren : Go.Shelf.Ren := ⟨fun | 157 => 54 | 229 => 98 | 199 => 99 | 261 => 128 | 311 => 152 | 312 => 153 | n => n, fun | 9 => 9 | 31 => 54 | 3 => 3 | 5 => 5 | 4 => 4 | 119 => 123 | 0 => 0 | 40 => 125 | 152 => 141 | 21 => 21 | 154 => 143 | 51 => 126 | 141 => 145 | 196 => 170 | 193 => 167 | 198 => 173 | 49 => 171 | 194 => 168 | 201 => 176 | 226 => 185 | 46 => 41 | 227 => 186 | n => n, fun | 0 => 0 | 6 => 1 | n => n⟩
theorem Tryz.lays157 : Go.Proofs.Lays.n157 Tryz.prog Tryz.lays157_ren := {
  mixed := by kernel_rfl
  f157 := Tryz.func54.trans (congrArg some (by kernel_rfl))
  f199 := Tryz.func99.trans (congrArg some (by kernel_rfl))
  f229 := Tryz.func98.trans (congrArg some (by kernel_rfl))
  f261 := Tryz.func128.trans (congrArg some (by kernel_rfl))
  f311 := Tryz.func152.trans (congrArg some (by kernel_rfl))
  f312 := Tryz.func153.trans (congrArg some (by kernel_rfl))
  t0 := Tryz.underlying0
  a0 := Tryz.isAgg0
  z0 := Tryz.sizeOf0
  v0 := Tryz.zeroValue0
  t3 := Tryz.underlying3
  a3 := Tryz.isAgg3
  z3 := Tryz.sizeOf3
  v3 := Tryz.zeroValue3
  t4 := Tryz.underlying4
  a4 := Tryz.isAgg4
  z4 := Tryz.sizeOf4
  v4 := Tryz.zeroValue4
  t5 := Tryz.underlying5
  a5 := Tryz.isAgg5
  z5 := Tryz.sizeOf5
  v5 := Tryz.zeroValue5
  t9 := Tryz.underlying9
  a9 := Tryz.isAgg9
  z9 := Tryz.sizeOf9
  v9 := Tryz.zeroValue9
  t21 := Tryz.underlying21
  a21 := Tryz.isAgg21
  z21 := Tryz.sizeOf21
  v21 := Tryz.zeroValue21
  t31 := Tryz.underlying54
  a31 := Tryz.isAgg54
  z31 := Tryz.sizeOf54
  v31 := Tryz.zeroValue54
  t40 := Tryz.underlying125
  a40 := Tryz.isAgg125
  z40 := Tryz.sizeOf125
  v40 := Tryz.zeroValue125
  t46 := Tryz.underlying41
  a46 := Tryz.isAgg41
  z46 := Tryz.sizeOf41
  v46 := Tryz.zeroValue41
  t49 := Tryz.underlying171
  a49 := Tryz.isAgg171
  z49 := Tryz.sizeOf171
  v49 := Tryz.zeroValue171
  t51 := Tryz.underlying126
  a51 := Tryz.isAgg126
  z51 := Tryz.sizeOf126
  v51 := Tryz.zeroValue126
  t119 := Tryz.underlying123
  a119 := Tryz.isAgg123
  z119 := Tryz.sizeOf123
  t141 := Tryz.underlying145
  a141 := Tryz.isAgg145
  z141 := Tryz.sizeOf145
  v141 := Tryz.zeroValue145
  t152 := Tryz.underlying141
  a152 := Tryz.isAgg141
  z152 := Tryz.sizeOf141
  v152 := Tryz.zeroValue141
  t154 := Tryz.underlying143
  a154 := Tryz.isAgg143
  z154 := Tryz.sizeOf143
  v154 := Tryz.zeroValue143
  t193 := Tryz.underlying167
  a193 := Tryz.isAgg167
  z193 := Tryz.sizeOf167
  v193 := Tryz.zeroValue167
  t194 := Tryz.underlying168
  a194 := Tryz.isAgg168
  z194 := Tryz.sizeOf168
  v194 := Tryz.zeroValue168
  t196 := Tryz.underlying170
  a196 := Tryz.isAgg170
  z196 := Tryz.sizeOf170
  v196 := Tryz.zeroValue170
  t198 := Tryz.underlying173
  a198 := Tryz.isAgg173
  z198 := Tryz.sizeOf173
  v198 := Tryz.zeroValue173
  t201 := Tryz.underlying176
  a201 := Tryz.isAgg176
  z201 := Tryz.sizeOf176
  v201 := Tryz.zeroValue176
  t226 := Tryz.underlying185
  a226 := Tryz.isAgg185
  z226 := Tryz.sizeOf185
  v226 := Tryz.zeroValue185
  t227 := Tryz.underlying186
  a227 := Tryz.isAgg186
  z227 := Tryz.sizeOf186
  v227 := Tryz.zeroValue186
  g0 := by kernel_rfl
  g6 := by kernel_rfl }

def Tryz.laysIdxS_ren : Go.Shelf.Ren := ⟨fun | 30 => 121 | n => n, fun | 25 => 54 | 26 => 9 | 3 => 3 | 0 => 0 | 4 => 4 | n => n, fun | n => n⟩
theorem Tryz.laysIdxS : Go.Proofs.SlLaysN.n30 Tryz.prog Tryz.laysIdxS_ren := {
  mixed := by kernel_rfl
  f30 := ⟨Tryz.f121.name, by decide, Tryz.func121.trans (congrArg some (by kernel_rfl))⟩
  t0 := Tryz.underlying0
  a0 := Tryz.isAgg0
  z0 := Tryz.sizeOf0
  v0 := Tryz.zeroValue0
  t3 := Tryz.underlying3
  a3 := Tryz.isAgg3
  z3 := Tryz.sizeOf3
  v3 := Tryz.zeroValue3
  t4 := Tryz.underlying4
  a4 := Tryz.isAgg4
  z4 := Tryz.sizeOf4
  v4 := Tryz.zeroValue4
  t25 := Tryz.underlying54
  a25 := Tryz.isAgg54
  z25 := Tryz.sizeOf54
  v25 := Tryz.zeroValue54
  t26 := Tryz.underlying9
  a26 := Tryz.isAgg9
  z26 := Tryz.sizeOf9
  v26 := Tryz.zeroValue9 }

end Go.Proofs
namespace Go.Proofs.YtkipcobpnecmhaaGreatDoor
open Go.RowKit Go.Shelf

theorem exchange1 (c : UInt8) (hc : c = 48 ∨ c = 49) : (97 : Int) - (c.toNat : Int) = ((97 - c).toNat : Int) := by rcases hc with rfl | rfl <;> rfl
set_option maxRecDepth 100000 in
theorem exchangedF_any (c : UInt8) (w : World) (hc : c = 48 ∨ c = 49) : Calls Tryz.prog 52 #[.int .i32 (c.toNat : Int)] w fun e w' => e = .returned (.int .i32 ((97 - c).toNat : Int)) ∧ w = w' := by
  have HE := Lib.hid (exchange1 c hc)
  have h0 : 48 ≤ (c.toNat : Int) := by rcases hc with rfl | rfl <;> decide
  have h1 : (c.toNat : Int) ≤ 49 := by rcases hc with rfl | rfl <;> decide
  clear hc
  go_enter Tryz.func52, Tryz.ntmps52
  go_wp2_with fail
  go_ret
  exact ⟨congrArg (fun z => Ending.returned (Value.int .i32 z)) HE.out, rfl⟩
set_option maxRecDepth 100000 in
theorem rightF_any (c : UInt8) (w : World) (hc : c = 48 ∨ c = 49) : Calls Tryz.prog 148 #[.int .i32 (c.toNat : Int)] w fun e w' => e = .returned (.int .i32 ((97 - c).toNat : Int)) ∧ w = w' := by
  have HE := Lib.hid (exchange1 c hc)
  have h0 : 48 ≤ (c.toNat : Int) := by rcases hc with rfl | rfl <;> decide
  have h1 : (c.toNat : Int) ≤ 49 := by rcases hc with rfl | rfl <;> decide
  clear hc
  go_enter Tryz.func148, Tryz.ntmps148
  go_wp2_with fail
  go_ret
  exact ⟨congrArg (fun z => Ending.returned (Value.int .i32 z)) HE.out, rfl⟩
set_option maxRecDepth 100000 in
theorem exchanged_any (d : Nat) (hd : d < 10) (w : World) : Calls Tryz.prog 27 #[.string ⟨(leftC.getD d []).toArray⟩] w fun e w' => e = .returned (.string ⟨(exB (leftC.getD d [])).toArray⟩) ∧ Bl w w' := by
  obtain ⟨c, l, hcl⟩ : ∃ c l, leftC.getD d [] = c :: l := by
    cases h : leftC.getD d [] with
    | nil =>
      have : ∀ d < 10, leftC.getD d [] ≠ [] := by decide
      exact absurd h (this d hd)
    | cons c l => exact ⟨c, l, rfl⟩
  have hm : madeOf (c :: l) [48, 49] = true := by
    rw [← hcl]
    have : ∀ d < 10, madeOf (leftC.getD d []) [48, 49] = true := by decide +kernel
    exact this d hd
  have hl : l.length ≤ 1000 := by
    have h1 : ∀ d < 10, (leftC.getD d []).length = 7 := by decide
    have := h1 d hd
    rw [hcl, List.length_cons] at this
    omega
  rw [hcl]
  have H := Lib.hid (map_any 52 (enters Tryz.func52 (by kernel_rfl) rfl) (fun c W hc => exchangedF_any c W hc) c l hm hl w)
  clear hcl hm
  go_enter Tryz.func27, Tryz.ntmps27
  go_wp2_with fail
  refine H.out.mono ?_
  rintro e w1 ⟨rfl, hb⟩
  go_wp2_with fail
  go_ret
  exact ⟨rfl, hb⟩
set_option maxRecDepth 100000 in
theorem right_any (d : Nat) (hd : d < 10) (w : World) : Calls Tryz.prog 120 #[.string ⟨(leftC.getD d []).toArray⟩] w fun e w' => e = .returned (.string ⟨(exB (leftC.getD d [])).toArray⟩) ∧ Bl w w' := by
  obtain ⟨c, l, hcl⟩ : ∃ c l, leftC.getD d [] = c :: l := by
    cases h : leftC.getD d [] with
    | nil =>
      have : ∀ d < 10, leftC.getD d [] ≠ [] := by decide
      exact absurd h (this d hd)
    | cons c l => exact ⟨c, l, rfl⟩
  have hm : madeOf (c :: l) [48, 49] = true := by
    rw [← hcl]
    have : ∀ d < 10, madeOf (leftC.getD d []) [48, 49] = true := by decide +kernel
    exact this d hd
  have hl : l.length ≤ 1000 := by
    have h1 : ∀ d < 10, (leftC.getD d []).length = 7 := by decide
    have := h1 d hd
    rw [hcl, List.length_cons] at this
    omega
  rw [hcl]
  have H := Lib.hid (map_any 148 (enters Tryz.func148 (by kernel_rfl) rfl) (fun c W hc => rightF_any c W hc) c l hm hl w)
  clear hcl hm
  go_enter Tryz.func120, Tryz.ntmps120
  go_wp2_with fail
  refine H.out.mono ?_
  rintro e w1 ⟨rfl, hb⟩
  go_wp2_with fail
  go_ret
  exact ⟨rfl, hb⟩
/-! ### tables -/
/-- A table of ten texts. -/
def TxtRes (ts : List (List UInt8)) (w : World) (e : Ending) (w' : World) : Prop := ∃ g : Nat, e = .returned (.slice (some ⟨g, 0, none⟩) ts.length ts.length) ∧ Reads w' 1 (some ⟨g, 0, none⟩) ts.length (strCells' ts) ∧ Bl w w'
set_option maxRecDepth 100000 in
set_option maxHeartbeats 1000000 in
theorem leftCodes_any (w : World) : Calls Tryz.prog 26 #[] w (TxtRes leftC w) := by
  go_enter Tryz.func26, Tryz.ntmps26
  go_wp2_with fail
  go_ret
  exact ⟨_, rfl, (Blk.new w 9 (strCells' leftC).toArray).reads 10 1 rfl, (Bl.refl w).alloc _⟩
set_option maxRecDepth 100000 in
set_option maxHeartbeats 1000000 in
theorem firstCodes_any (w : World) : Calls Tryz.prog 25 #[] w (TxtRes firstC w) := by
  go_enter Tryz.func25, Tryz.ntmps25
  go_wp2_with fail
  go_ret
  exact ⟨_, rfl, (Blk.new w 9 (strCells' firstC).toArray).reads 10 1 rfl, (Bl.refl w).alloc _⟩
/-- The library's table of spaces. -/
def SpOk (w : World) : Prop := ∀ c : Nat, c < 256 → w.cell? ⟨Tryz.lays157_ren.g 0, c, none⟩ = some (.int .u8 (if Lib.isSp (UInt8.ofNat c) then 1 else 0))
theorem SpOk.bl {w w' : World} (h : SpOk w) (hb : Bl w w') : SpOk w' := fun c hc => hb.at (h c hc)
theorem fields_any (s : List UInt8) (ts : List (List UInt8)) (hs : s.length < 4294967281) (hascii : ∀ b ∈ s, b.toNat < 128) (hts : Lib.fields s = ts) (w : World) (hT : SpOk w) : Calls Tryz.prog 54 #[.string ⟨s.toArray⟩] w (TxtRes ts w) := by
  have h := Any.strings_Fields_core Tryz.lays157 (by kernel_rfl) ⟨s.toArray⟩ w (by rw [Lib.size_mk]; exact hs) (fun j b hb => hascii b (List.mem_of_getElem? hb)) hT
  refine Calls.mono (R := fun e w' => e = .returned (.slice (some ⟨w.heap.size, 0, none⟩) (Lib.fields s).length (Lib.fields s).length) ∧ w' = w.alloc (.cells ((Lib.fields s).map fun l => Value.string ⟨l.toArray⟩).toArray 9)) h ?_
  rintro e w' ⟨rfl, rfl⟩
  rw [hts]
  exact ⟨_, rfl, (Blk.new w 9 (strCells' ts).toArray).reads ts.length 1 (by unfold strCells'; simp), (Bl.refl w).alloc _⟩
def leftS : List UInt8 := [48, 48, 48, 49, 49, 48, 49, 32, 48, 48, 49, 49, 48, 48, 49, 32, 48, 48, 49, 48, 48, 49, 49, 32, 48, 49, 49, 49, 49, 48, 49, 32, 48, 49, 48, 48, 48, 49, 49, 32, 48, 49, 49, 48, 48, 48, 49, 32, 48, 49, 48, 49, 49, 49, 49, 32, 48, 49, 49, 49, 48, 49, 49, 32, 48, 49, 49, 48, 49, 49, 49, 32, 48, 48, 48, 49, 48, 49, 49]
def firstS : List UInt8 := [76, 76, 76, 76, 76, 76, 32, 76, 76, 71, 76, 71, 71, 32, 76, 76, 71, 71, 76, 71, 32, 76, 76, 71, 71, 71, 76, 32, 76, 71, 76, 76, 71, 71, 32, 76, 71, 71, 76, 76, 71, 32, 76, 71, 71, 71, 76, 76, 32, 76, 71, 76, 71, 76, 71, 32, 76, 71, 76, 71, 71, 76, 32, 76, 71, 71, 76, 71, 76]
set_option maxRecDepth 100000 in
theorem left_any (w : World) (hT : SpOk w) : Calls Tryz.prog 119 #[] w (TxtRes leftC w) := by
  have H := Lib.hid (fields_any leftS leftC (by decide) (by decide +kernel) (by decide +kernel) w hT)
  unfold leftS at H
  go_enter Tryz.func119, Tryz.ntmps119
  go_wp2_with fail
  refine H.out.mono ?_
  rintro e w1 ⟨g, rfl, hr, hb⟩
  go_wp2_with fail
  go_ret
  exact ⟨g, rfl, hr, hb⟩
set_option maxRecDepth 100000 in
theorem rowsE_any (w : World) (hT : SpOk w) : Calls Tryz.prog 122 #[] w (TxtRes firstC w) := by
  have H := Lib.hid (fields_any firstS firstC (by decide) (by decide +kernel) (by decide +kernel) w hT)
  unfold firstS at H
  go_enter Tryz.func122, Tryz.ntmps122
  go_wp2_with fail
  refine H.out.mono ?_
  rintro e w1 ⟨g, rfl, hr, hb⟩
  go_wp2_with fail
  go_ret
  exact ⟨g, rfl, hr, hb⟩
/-! ### where a row stands in the table -/
theorem idxFromS_find (x : List UInt8) : ∀ (zs : List (List UInt8)) (i : Nat), Lib.idxFromS (zs.map fun l => (⟨l.toArray⟩ : ByteArray)) ⟨x.toArray⟩ i = match zs.findIdx? (· == x) with | some k => ((i + k : Nat) : Int) | none => -1
  | [], i => rfl
  | y :: l, i => by
    rw [List.map_cons, List.findIdx?_cons]
    unfold Lib.idxFromS
    by_cases hp : y = x
    · subst hp
      simp
    · have h1 : (⟨y.toArray⟩ : ByteArray) ≠ ⟨x.toArray⟩ := fun e => hp (by simpa using e)
      have h2 : (y == x) = false := by simpa using hp
      rw [if_neg h1, h2]
      simp only [Bool.false_eq_true, if_false]
      rw [idxFromS_find x l (i + 1)]
      cases l.findIdx? (· == x) with
      | none => rfl
      | some k => simp only [Option.map_some]; congr 1; omega
theorem idxS_find (zs : List (List UInt8)) (x : List UInt8) : Lib.idxOfS (zs.map fun l => (⟨l.toArray⟩ : ByteArray)) ⟨x.toArray⟩ = match zs.findIdx? (· == x) with | some k => (k : Int) | none => -1 := by
  unfold Lib.idxOfS
  rw [idxFromS_find]
  cases zs.findIdx? (· == x) with
  | none => rfl
  | some k => simp
theorem indexRow_any (g : Nat) (zs : List (List UInt8)) (x : List UInt8) (w : World) (hr : Reads w 1 (some ⟨g, 0, none⟩) zs.length (strCells' zs)) (hn : zs.length ≤ 1000) :
    Calls Tryz.prog 121 #[.slice (some ⟨g, 0, none⟩) zs.length zs.length, .string ⟨x.toArray⟩] w fun e w' => e = .returned (.int .i64 (match zs.findIdx? (· == x) with | some k => (k : Int) | none => -1)) ∧ w = w' := by
  have h := AnyG.slices_Index_string Tryz.laysIdxS g 0 zs.length zs.length (zs.map fun l => (⟨l.toArray⟩ : ByteArray)) ⟨x.toArray⟩ w (by simp) (by omega) (fun j hj => by
    rw [List.length_map] at hj
    obtain ⟨t, ht⟩ : ∃ t, zs[j]? = some t := ⟨_, List.getElem?_eq_getElem hj⟩
    obtain ⟨ad, e, hc⟩ := str_at hr ht
    obtain rfl := Option.some.inj e
    rw [List.getD_eq_getElem?_getD, List.getElem?_map, ht, Nat.zero_add]
    rw [add_flat] at hc
    exact hc)
  rw [show (zs.map fun l => (⟨l.toArray⟩ : ByteArray)).take zs.length = zs.map fun l => (⟨l.toArray⟩ : ByteArray) from List.take_of_length_le (by simp), idxS_find] at h
  refine Calls.mono (R := fun e w' => e = .returned (.int .i64 (match zs.findIdx? (· == x) with | some k => (k : Int) | none => -1)) ∧ w' = w) h ?_
  rintro e w' ⟨rfl, rfl⟩
  exact ⟨rfl, rfl⟩

end Go.Proofs.YtkipcobpnecmhaaGreatDoor


/-! bar.EAN, bedref2.EANOf, bedref2.CheckOf, bedref2.Digits. -/
namespace Go.Proofs.YtkipcobpnecmhaaGreatDoor
open Go.RowKit Go.Shelf

/-- A digit's sign. -/
theorem digit_at {ds : List UInt8} (hm : madeOf ds digits10 = true) {i : Nat} (hi : i < ds.length) : ∃ b, ds[i]? = some b ∧ 48 ≤ b.toNat ∧ b.toNat ≤ 57 ∧ digOf ds i = b.toNat - 48 := by
  have hg : ds[i]? = some ds[i] := List.getElem?_eq_getElem hi
  obtain ⟨h1, h2⟩ := made_at hm hg
  refine ⟨_, hg, h1, h2, ?_⟩
  unfold digOf
  rw [List.getD_eq_getElem?_getD, hg]
  rfl
theorem digit_byte {ds : List UInt8} (hm : madeOf ds digits10 = true) {i : Nat} (hi : i < ds.length) : ∃ b, ds[i]? = some b ∧ (b.toNat : Int) = 48 + (digOf ds i : Int) ∧ digOf ds i ≤ 9 := by
  obtain ⟨b, h1, h2, h3, h4⟩ := digit_at hm hi
  exact ⟨b, h1, by omega, by omega⟩
set_option maxRecDepth 100000 in
set_option maxHeartbeats 2000000 in
theorem checkOfR_any (l : List UInt8) (w : World) (hl : l.length = 12) (hm : madeOf l digits10 = true) :
    Calls Tryz.prog 85 #[.string ⟨l.toArray⟩] w fun e w' => e = .returned (.int .i64 (checkOf l : Int)) ∧ Bl w w' := by
  have hsz : (⟨l.toArray⟩ : ByteArray).size = 12 := by rw [Lib.size_mk, hl]
  have HM := Lib.hid hm
  have HL := Lib.hid hl
  clear hm hl
  go_enter Tryz.func85, Tryz.ntmps85
  go_wp2_with fail
  obtain ⟨K, hK⟩ : ∃ K, K = w.heap.size := ⟨_, rfl⟩
  obtain ⟨w1, hw1⟩ : ∃ x, x = w.iter ⟨l.toArray⟩ 0 := ⟨_, rfl⟩
  have hit : w1.heap[K]? = some (.stringIter ⟨l.toArray⟩ 0) := by
    rw [hw1, hK]
    exact heap_alloc_new w (.stringIter ⟨l.toArray⟩ 0)
  have hb1 : Bl w w1 := by rw [hw1]; exact (Bl.refl w).alloc _
  rw [← hw1, ← hK]
  have HK := Lib.hid hK
  have Hst0 := Lib.hid (And.intro hit hb1)
  clear hw1 hK hit hb1
  go_loopw [3] (fun s3 wi => ∃ i : Nat, i ≤ 12 ∧ s3 = .int .i64 (checkSum l i : Int) ∧ wi.heap[K]? = some (.stringIter ⟨l.toArray⟩ i) ∧ Bl w wi) (fun _ wi => 12 - wi.iterPos K)
  case atStart => exact ⟨0, Nat.zero_le _, rfl, Hst0.out⟩
  case round =>
    rename World => wi
    obtain ⟨i, hi, rfl, hit, hbi⟩ := hrel
    by_cases hlt : i < 12
    · have hih : i < (⟨l.toArray⟩ : ByteArray).size := by rw [hsz]; exact hlt
      have hgi := Lib.getElem_mk l i hih
      obtain ⟨b, hb⟩ : ∃ b, b = (⟨l.toArray⟩ : ByteArray)[i]'hih := ⟨_, rfl⟩
      rw [← hb] at hgi
      have hma := made_at HM.out hgi
      have hnx0 := fun ty => Lib.run_next_ascii_at (P := Tryz.prog) wi K ⟨l.toArray⟩ i ty hit hih (by rw [← hb]; omega)
      have h7b : Bl w (wi.iterAt K ⟨l.toArray⟩ (i + 1)) := Lib.below_iterAt hbi (k := K) (by have := HK.out; omega) _ _
      have h7i := Lib.iterAt_heap wi K ⟨l.toArray⟩ i (i + 1) hit
      rw [← hb] at hnx0
      generalize wi.iterAt K ⟨l.toArray⟩ (i + 1) = w7 at hnx0 h7b h7i
      have hnx : ∀ ty, (Instr.next (.pointer (some ⟨K, 0, none⟩)) true ty).run Tryz.prog wi = .ok (.tuple #[.bool true, .int .i64 (i : Int), .int .i32 (b.toNat : Int)]) w7 := hnx0
      obtain ⟨h1, h2⟩ := bytes_at hgi
      have hdg : digOf l i = b.toNat - 48 := by unfold digOf; rw [List.getD_eq_getElem?_getD, hgi]; rfl
      have hst : checkSum l (i + 1) = checkSum l i + digOf l i * (1 + i % 2 * 2) := rfl
      have hle := checkSum_le l (digOf_le HM.out) i
      have hd9 := digOf_le HM.out i
      obtain ⟨s, hs⟩ : ∃ s, s = checkSum l i := ⟨_, rfl⟩
      obtain ⟨d, hd⟩ : ∃ d, d = digOf l i := ⟨_, rfl⟩
      rw [← hs] at hst hle ⊢
      rw [← hd] at hst hd9 hdg
      have hr2 : i % 2 = 0 ∨ i % 2 = 1 := by omega
      have hdb2 : (b.toNat : Int) - 48 = (d : Int) := by omega
      have hmr : (i : Int) % 2 = ((i % 2 : Nat) : Int) := by omega
      obtain ⟨r, hr⟩ : ∃ r, r = i % 2 := ⟨_, rfl⟩
      rw [← hr] at hst hr2 hmr
      have HSt := Lib.hid hst; have HDb := Lib.hid hdb2
      have HN := Lib.hid (And.intro h7i h7b); have Hit := Lib.hid hit
      clear hgi hb hs hd hr hst hdg hdb2 hnx0 h7b h7i hit hbi Hst0
      rcases hr2 with rfl | rfl
      · have HF := Lib.hid (show (s : Int) + (d : Int) = ((checkSum l (i + 1) : Nat) : Int) by rw [HSt.out]; omega)
        clear HSt
        go_wp2_with fail
        exact ⟨⟨i + 1, by omega, by rw [← HF.out, ← HDb.out], HN.out⟩, by simp only [World.iterPos, HN.out.1, Hit.out]; omega⟩
      · have HF := Lib.hid (show (s : Int) + (d : Int) * 3 = ((checkSum l (i + 1) : Nat) : Int) by rw [HSt.out]; omega)
        clear HSt
        go_wp2_with fail
        exact ⟨⟨i + 1, by omega, by rw [← HF.out, ← HDb.out], HN.out⟩, by simp only [World.iterPos, HN.out.1, Hit.out]; omega⟩
    · obtain rfl : i = 12 := by omega
      have hnx : ∀ ty, (Instr.next (.pointer (some ⟨K, 0, none⟩)) true ty).run Tryz.prog wi = .ok (.tuple #[.bool false]) wi := fun ty => Lib.run_next_end_at wi K ⟨l.toArray⟩ 12 ty hit (by rw [hsz]; omega)
      have hle := checkSum_le l (digOf_le HM.out) 12
      have HC := Lib.hid (show (1000 - (checkSum l 12 : Int)) % 10 = (checkOf l : Int) by unfold checkOf; omega)
      obtain ⟨s, hs⟩ : ∃ s, s = checkSum l 12 := ⟨_, rfl⟩
      rw [← hs] at hle HC ⊢
      clear hs hit
      go_wp2_with fail
      go_ret
      exact ⟨ret_int (by rw [← HC.out]), hbi⟩

end Go.Proofs.YtkipcobpnecmhaaGreatDoor


/-! bar.EAN and bedref2.EANOf: the modules of 13 digits. -/
namespace Go.Proofs.YtkipcobpnecmhaaGreatDoor
open Go.RowKit Go.Shelf

theorem slice_ab (l : List UInt8) (a b : Nat) : (⟨l.toArray⟩ : ByteArray).extract a b = ⟨((l.drop a).take (b - a)).toArray⟩ := by
  apply ByteArray.ext
  rw [ByteArray.data_extract]
  apply Array.toList_inj.1
  simp only [Array.toList_extract, List.extract_eq_take_drop]
theorem cat_two (a b : List UInt8) : (⟨a.toArray⟩ : ByteArray) ++ ⟨b.toArray⟩ = ⟨(a ++ b).toArray⟩ := by
  apply ByteArray.ext
  simp [ByteArray.data_append]
theorem leftC_at (d : Nat) (h : d < 10) : leftC[d]? = some (leftC.getD d []) := by
  rw [List.getD_eq_getElem?_getD, List.getElem?_eq_getElem (show d < leftC.length from h)]
  rfl
theorem codeOf_left (d : Nat) : codeOf 76 d = leftC.getD d [] := rfl
theorem codeOf_right (d : Nat) : codeOf 82 d = exB (leftC.getD d []) := rfl
theorem codeOf_g (d : Nat) : codeOf 71 d = (exB (leftC.getD d [])).reverse := rfl
theorem ex_len (d : Nat) (h : d < 10) : (exB (leftC.getD d [])).length = 7 := codeOf_len 82 d h
end Go.Proofs.YtkipcobpnecmhaaGreatDoor
