/- bedref2.EANOf: the modules of 13 right digits. -/
import Derived.Test.YthobmednnocklaaGreatDoorMClaimFills13
import Derived.Test.YthobmednnocklaaGreatDoorMClaimFills10
import Derived.Test.YthobmednnocklaaGreatDoorMClaimFills9
import Derived.Test.YthobmednnocklaaGreatDoorMClaimFills2
import Derived.Test.YthobmednnocklaaGreatDoorMClaimFills8
import Derived.Test.YthobmednnocklaaGreatDoorMClaimFills4
import Derived.Shelf.Strings.Fields
import Derived.Shelf.SlicesG.Turned
import Derived.Shelf.SlGeneric
import Derived.Ground.SlgnProg
import Derived.Shelf.Strings.Split
import Derived.Lib.Split
import Derived.Lib.CountLaws

namespace Go.Proofs
open Go.Shelf
def Tryz.lays157_ren : Go.Shelf.Ren := ⟨fun | 157 => 285 | 229 => 323 | 199 => 324 | 261 => 354 | 311 => 368 | 312 => 369 | n => n, fun | 9 => 9 | 31 => 64 | 3 => 3 | 5 => 5 | 4 => 4 | 119 => 385 | 0 => 0 | 40 => 227 | 152 => 408 | 21 => 21 | 154 => 410 | 51 => 279 | 141 => 412 | 196 => 431 | 193 => 428 | 198 => 434 | 49 => 432 | 194 => 429 | 201 => 437 | 226 => 446 | 46 => 173 | 227 => 447 | n => n, fun | 0 => 1 | 6 => 2 | n => n⟩
theorem Tryz.lays157 : Go.Proofs.Lays.n157 Tryz.prog Tryz.lays157_ren := {
 mixed := by kernel_rfl
 f157 := Tryz.func285.trans (congrArg some (by kernel_rfl))
 f199 := Tryz.func324.trans (congrArg some (by kernel_rfl))
 f229 := Tryz.func323.trans (congrArg some (by kernel_rfl))
 f261 := Tryz.func354.trans (congrArg some (by kernel_rfl))
 f311 := Tryz.func368.trans (congrArg some (by kernel_rfl))
 f312 := Tryz.func369.trans (congrArg some (by kernel_rfl))
 t0 := Tryz.underlying0
 a0 := Tryz.isAgg0
 z0 := Tryz.sizeOf0
 v0 := Tryz.zeroValue0
 t3 := Tryz.underlying3
 a3 := Tryz.isAgg3
 z3 := Tryz.sizeOf3
 v3 := Tryz.zeroValue3
 t4 := Tryz.underlying4
 a4 := Tryz.isAgg4
 z4 := Tryz.sizeOf4
 v4 := Tryz.zeroValue4
 t5 := Tryz.underlying5
 a5 := Tryz.isAgg5
 z5 := Tryz.sizeOf5
 v5 := Tryz.zeroValue5
 t9 := Tryz.underlying9
 a9 := Tryz.isAgg9
 z9 := Tryz.sizeOf9
 v9 := Tryz.zeroValue9
 t21 := Tryz.underlying21
 a21 := Tryz.isAgg21
 z21 := Tryz.sizeOf21
 v21 := Tryz.zeroValue21
 t31 := Tryz.underlying64
 a31 := Tryz.isAgg64
 z31 := Tryz.sizeOf64
 v31 := Tryz.zeroValue64
 t40 := Tryz.underlying227
 a40 := Tryz.isAgg227
 z40 := Tryz.sizeOf227
 v40 := Tryz.zeroValue227
 t46 := Tryz.underlying173
 a46 := Tryz.isAgg173
 z46 := Tryz.sizeOf173
 v46 := Tryz.zeroValue173
 t49 := Tryz.underlying432
 a49 := Tryz.isAgg432
 z49 := Tryz.sizeOf432
 v49 := Tryz.zeroValue432
 t51 := Tryz.underlying279
 a51 := Tryz.isAgg279
 z51 := Tryz.sizeOf279
 v51 := Tryz.zeroValue279
 t119 := Tryz.underlying385
 a119 := Tryz.isAgg385
 z119 := Tryz.sizeOf385
 t141 := Tryz.underlying412
 a141 := Tryz.isAgg412
 z141 := Tryz.sizeOf412
 v141 := Tryz.zeroValue412
 t152 := Tryz.underlying408
 a152 := Tryz.isAgg408
 z152 := Tryz.sizeOf408
 v152 := Tryz.zeroValue408
 t154 := Tryz.underlying410
 a154 := Tryz.isAgg410
 z154 := Tryz.sizeOf410
 v154 := Tryz.zeroValue410
 t193 := Tryz.underlying428
 a193 := Tryz.isAgg428
 z193 := Tryz.sizeOf428
 v193 := Tryz.zeroValue428
 t194 := Tryz.underlying429
 a194 := Tryz.isAgg429
 z194 := Tryz.sizeOf429
 v194 := Tryz.zeroValue429
 t196 := Tryz.underlying431
 a196 := Tryz.isAgg431
 z196 := Tryz.sizeOf431
 v196 := Tryz.zeroValue431
 t198 := Tryz.underlying434
 a198 := Tryz.isAgg434
 z198 := Tryz.sizeOf434
 v198 := Tryz.zeroValue434
 t201 := Tryz.underlying437
 a201 := Tryz.isAgg437
 z201 := Tryz.sizeOf437
 v201 := Tryz.zeroValue437
 t226 := Tryz.underlying446
 a226 := Tryz.isAgg446
 z226 := Tryz.sizeOf446
 v226 := Tryz.zeroValue446
 t227 := Tryz.underlying447
 a227 := Tryz.isAgg447
 z227 := Tryz.sizeOf447
 v227 := Tryz.zeroValue447
 g0 := by kernel_rfl
 g6 := by kernel_rfl }

end Go.Proofs
namespace Go.Proofs.YthobmednnocklaaGreatDoor
open Go.RowKit Go.Shelf

theorem exchange1 (c : UInt8) (hc : c = 48 ∨ c = 49) : (97 : Int) - (c.toNat : Int) = ((97 - c).toNat : Int) := by rcases hc with rfl | rfl <;> rfl
set_option maxRecDepth 100000 in
theorem exchangedF_any (c : UInt8) (w : World) (hc : c = 48 ∨ c = 49) : Calls Tryz.prog 294 #[.int .i32 (c.toNat : Int)] w fun e w' => e = .returned (.int .i32 ((97 - c).toNat : Int)) ∧ w = w' := by
 have HE := Lib.hid (exchange1 c hc)
 have h0 : 48 ≤ (c.toNat : Int) := by rcases hc with rfl | rfl <;> decide
 have h1 : (c.toNat : Int) ≤ 49 := by rcases hc with rfl | rfl <;> decide
 clear hc
 go_enter Tryz.func294, Tryz.ntmps294
 go_wp2_with fail
 go_ret
 exact ⟨congrArg (fun z => Ending.returned (Value.int .i32 z)) HE.out, rfl⟩
set_option maxRecDepth 100000 in
theorem rightF_any (c : UInt8) (w : World) (hc : c = 48 ∨ c = 49) : Calls Tryz.prog 303 #[.int .i32 (c.toNat : Int)] w fun e w' => e = .returned (.int .i32 ((97 - c).toNat : Int)) ∧ w = w' := by
 have HE := Lib.hid (exchange1 c hc)
 have h0 : 48 ≤ (c.toNat : Int) := by rcases hc with rfl | rfl <;> decide
 have h1 : (c.toNat : Int) ≤ 49 := by rcases hc with rfl | rfl <;> decide
 clear hc
 go_enter Tryz.func303, Tryz.ntmps303
 go_wp2_with fail
 go_ret
 exact ⟨congrArg (fun z => Ending.returned (Value.int .i32 z)) HE.out, rfl⟩
set_option maxRecDepth 100000 in
theorem exchanged_any (d : Nat) (hd : d < 10) (w : World) : Calls Tryz.prog 221 #[.string ⟨(leftC.getD d []).toArray⟩] w fun e w' => e = .returned (.string ⟨(exB (leftC.getD d [])).toArray⟩) ∧ Bl w w' := by
 obtain ⟨c, l, hcl⟩ : ∃ c l, leftC.getD d [] = c :: l := by
  cases h : leftC.getD d [] with
  | nil =>
   have : ∀ d < 10, leftC.getD d [] ≠ [] := by decide
   exact absurd h (this d hd)
  | cons c l => exact ⟨c, l, rfl⟩
 have hm : madeOf (c :: l) [48, 49] = true := by
  rw [← hcl]
  have : ∀ d < 10, madeOf (leftC.getD d []) [48, 49] = true := by decide +kernel
  exact this d hd
 have hl : l.length ≤ 1000 := by
  have h1 : ∀ d < 10, (leftC.getD d []).length = 7 := by decide
  have := h1 d hd
  rw [hcl, List.length_cons] at this
  omega
 rw [hcl]
 have H := Lib.hid (map_any 294 (enters Tryz.func294 (by kernel_rfl) rfl) (fun c W hc => exchangedF_any c W hc) c l hm hl w)
 clear hcl hm
 go_enter Tryz.func221, Tryz.ntmps221
 go_wp2_with fail
 refine H.out.mono ?_
 rintro e w1 ⟨rfl, hb⟩
 go_wp2_with fail
 go_ret
 exact ⟨rfl, hb⟩
set_option maxRecDepth 100000 in
theorem right_any (d : Nat) (hd : d < 10) (w : World) : Calls Tryz.prog 234 #[.string ⟨(leftC.getD d []).toArray⟩] w fun e w' => e = .returned (.string ⟨(exB (leftC.getD d [])).toArray⟩) ∧ Bl w w' := by
 obtain ⟨c, l, hcl⟩ : ∃ c l, leftC.getD d [] = c :: l := by
  cases h : leftC.getD d [] with
  | nil =>
   have : ∀ d < 10, leftC.getD d [] ≠ [] := by decide
   exact absurd h (this d hd)
  | cons c l => exact ⟨c, l, rfl⟩
 have hm : madeOf (c :: l) [48, 49] = true := by
  rw [← hcl]
  have : ∀ d < 10, madeOf (leftC.getD d []) [48, 49] = true := by decide +kernel
  exact this d hd
 have hl : l.length ≤ 1000 := by
  have h1 : ∀ d < 10, (leftC.getD d []).length = 7 := by decide
  have := h1 d hd
  rw [hcl, List.length_cons] at this
  omega
 rw [hcl]
 have H := Lib.hid (map_any 303 (enters Tryz.func303 (by kernel_rfl) rfl) (fun c W hc => rightF_any c W hc) c l hm hl w)
 clear hcl hm
 go_enter Tryz.func234, Tryz.ntmps234
 go_wp2_with fail
 refine H.out.mono ?_
 rintro e w1 ⟨rfl, hb⟩
 go_wp2_with fail
 go_ret
 exact ⟨rfl, hb⟩
/-! ### tables -/
/-- A table of ten texts. -/
def TxtRes (ts : List (List UInt8)) (w : World) (e : Ending) (w' : World) : Prop := ∃ g : Nat, e = .returned (.slice (some ⟨g, 0, none⟩) ts.length ts.length) ∧ Reads w' 1 (some ⟨g, 0, none⟩) ts.length (strCells' ts) ∧ Bl w w'
set_option maxRecDepth 100000 in
set_option maxHeartbeats 1000000 in
theorem leftCodes_any (w : World) : Calls Tryz.prog 220 #[] w (TxtRes leftC w) := by
 go_enter Tryz.func220, Tryz.ntmps220
 go_wp2_with fail
 go_ret
 exact ⟨_, rfl, (Blk.new w 9 (strCells' leftC).toArray).reads 10 1 rfl, (Bl.refl w).alloc _⟩
set_option maxRecDepth 100000 in
set_option maxHeartbeats 1000000 in
theorem firstCodes_any (w : World) : Calls Tryz.prog 219 #[] w (TxtRes firstC w) := by
 go_enter Tryz.func219, Tryz.ntmps219
 go_wp2_with fail
 go_ret
 exact ⟨_, rfl, (Blk.new w 9 (strCells' firstC).toArray).reads 10 1 rfl, (Bl.refl w).alloc _⟩
/-- The library's table of spaces. -/
def SpOk (w : World) : Prop := ∀ c : Nat, c < 256 → w.cell? ⟨Tryz.lays157_ren.g 0, c, none⟩ = some (.int .u8 (if Lib.isSp (UInt8.ofNat c) then 1 else 0))
theorem SpOk.bl {w w' : World} (h : SpOk w) (hb : Bl w w') : SpOk w' := fun c hc => hb.at (h c hc)
theorem fields_any (s : List UInt8) (ts : List (List UInt8)) (hs : s.length < 4294967281) (hascii : ∀ b ∈ s, b.toNat < 128) (hts : Lib.fields s = ts) (w : World) (hT : SpOk w) : Calls Tryz.prog 285 #[.string ⟨s.toArray⟩] w (TxtRes ts w) := by
 have h := Any.strings_Fields_core Tryz.lays157 (by kernel_rfl) ⟨s.toArray⟩ w (by rw [Lib.size_mk]; exact hs) (fun j b hb => hascii b (List.mem_of_getElem? hb)) hT
 refine Calls.mono (R := fun e w' => e = .returned (.slice (some ⟨w.heap.size, 0, none⟩) (Lib.fields s).length (Lib.fields s).length) ∧ w' = w.alloc (.cells ((Lib.fields s).map fun l => Value.string ⟨l.toArray⟩).toArray 9)) h ?_
 rintro e w' ⟨rfl, rfl⟩
 rw [hts]
 exact ⟨_, rfl, (Blk.new w 9 (strCells' ts).toArray).reads ts.length 1 (by unfold strCells'; simp), (Bl.refl w).alloc _⟩
def leftS : List UInt8 := [48, 48, 48, 49, 49, 48, 49, 32, 48, 48, 49, 49, 48, 48, 49, 32, 48, 48, 49, 48, 48, 49, 49, 32, 48, 49, 49, 49, 49, 48, 49, 32, 48, 49, 48, 48, 48, 49, 49, 32, 48, 49, 49, 48, 48, 48, 49, 32, 48, 49, 48, 49, 49, 49, 49, 32, 48, 49, 49, 49, 48, 49, 49, 32, 48, 49, 49, 48, 49, 49, 49, 32, 48, 48, 48, 49, 48, 49, 49]
def firstS : List UInt8 := [76, 76, 76, 76, 76, 76, 32, 76, 76, 71, 76, 71, 71, 32, 76, 76, 71, 71, 76, 71, 32, 76, 76, 71, 71, 71, 76, 32, 76, 71, 76, 76, 71, 71, 32, 76, 71, 71, 76, 76, 71, 32, 76, 71, 71, 71, 76, 76, 32, 76, 71, 76, 71, 76, 71, 32, 76, 71, 76, 71, 71, 76, 32, 76, 71, 71, 76, 71, 76]
set_option maxRecDepth 100000 in
theorem left_any (w : World) (hT : SpOk w) : Calls Tryz.prog 233 #[] w (TxtRes leftC w) := by
 have H := Lib.hid (fields_any leftS leftC (by decide) (by decide +kernel) (by decide +kernel) w hT)
 unfold leftS at H
 go_enter Tryz.func233, Tryz.ntmps233
 go_wp2_with fail
 refine H.out.mono ?_
 rintro e w1 ⟨g, rfl, hr, hb⟩
 go_wp2_with fail
 go_ret
 exact ⟨g, rfl, hr, hb⟩
set_option maxRecDepth 100000 in
theorem rowsE_any (w : World) (hT : SpOk w) : Calls Tryz.prog 232 #[] w (TxtRes firstC w) := by
 have H := Lib.hid (fields_any firstS firstC (by decide) (by decide +kernel) (by decide +kernel) w hT)
 unfold firstS at H
 go_enter Tryz.func232, Tryz.ntmps232
 go_wp2_with fail
 refine H.out.mono ?_
 rintro e w1 ⟨g, rfl, hr, hb⟩
 go_wp2_with fail
 go_ret
 exact ⟨g, rfl, hr, hb⟩
/-! ### where a row stands in the table -/
end Go.Proofs.YthobmednnocklaaGreatDoor


/-! bar.EAN, bedref2.EANOf, bedref2.CheckOf, bedref2.Digits. -/
namespace Go.Proofs.YthobmednnocklaaGreatDoor
open Go.RowKit Go.Shelf

set_option maxRecDepth 100000 in
set_option maxHeartbeats 1000000 in
theorem digitsR_any (l : List UInt8) (n : Nat) (w : World) (hl : l.length ≤ 9223372036854775807) (_hn : n ≤ 100) :
 Calls Tryz.prog 151 #[.string ⟨l.toArray⟩, .int .i64 n] w fun e w' => e = .returned (.bool (digB l n)) ∧ Bl w w' := by
 have Ht := Lib.hid (trim_any l digits10 w hl (by decide) digits_ascii)
 have hsz : (⟨l.toArray⟩ : ByteArray).size = l.length := Lib.size_mk l
 go_enter Tryz.func151, Tryz.ntmps151
 by_cases h : l.length = n
 · have hq : ((l.length : Int) == (n : Int)) = true := by simp [h]
   have HD := Lib.hid (show digB l n = (Lib.trimS l digits10).isEmpty by unfold digB; rw [decide_eq_true h, trim_made]; rfl)
   clear h
   go_wp2_with fail
   refine Ht.out.mono ?_
   rintro e w1 ⟨rfl, hb⟩
   go_wp2_with fail
   go_ret
   exact ⟨ret_bool HD.out.symm, hb⟩
 · have hq : ((l.length : Int) == (n : Int)) = false := by rw [beq_eq_false_iff_ne]; omega
   have HD := Lib.hid (show digB l n = false by unfold digB; rw [decide_eq_false h]; rfl)
   clear h
   go_wp2_with fail
   go_ret
   exact ⟨ret_bool HD.out.symm, Bl.refl _⟩
/-- A digit's sign. -/
theorem digit_at {ds : List UInt8} (hm : madeOf ds digits10 = true) {i : Nat} (hi : i < ds.length) : ∃ b, ds[i]? = some b ∧ 48 ≤ b.toNat ∧ b.toNat ≤ 57 ∧ digOf ds i = b.toNat - 48 := by
 have hg : ds[i]? = some ds[i] := List.getElem?_eq_getElem hi
 obtain ⟨h1, h2⟩ := made_at hm hg
 refine ⟨_, hg, h1, h2, ?_⟩
 unfold digOf
 rw [List.getD_eq_getElem?_getD, hg]
 rfl
theorem digit_byte {ds : List UInt8} (hm : madeOf ds digits10 = true) {i : Nat} (hi : i < ds.length) : ∃ b, ds[i]? = some b ∧ (b.toNat : Int) = 48 + (digOf ds i : Int) ∧ digOf ds i ≤ 9 := by
 obtain ⟨b, h1, h2, h3, h4⟩ := digit_at hm hi
 exact ⟨b, h1, by omega, by omega⟩
set_option maxRecDepth 100000 in
set_option maxHeartbeats 2000000 in
theorem checkOfR_any (l : List UInt8) (w : World) (hl : l.length = 12) (hm : madeOf l digits10 = true) :
 Calls Tryz.prog 152 #[.string ⟨l.toArray⟩] w fun e w' => e = .returned (.int .i64 (checkOf l : Int)) ∧ Bl w w' := by
 have hsz : (⟨l.toArray⟩ : ByteArray).size = 12 := by rw [Lib.size_mk, hl]
 have HM := Lib.hid hm
 have HL := Lib.hid hl
 clear hm hl
 go_enter Tryz.func152, Tryz.ntmps152
 go_wp2_with fail
 obtain ⟨K, hK⟩ : ∃ K, K = w.heap.size := ⟨_, rfl⟩
 obtain ⟨w1, hw1⟩ : ∃ x, x = w.iter ⟨l.toArray⟩ 0 := ⟨_, rfl⟩
 have hit : w1.heap[K]? = some (.stringIter ⟨l.toArray⟩ 0) := by
  rw [hw1, hK]
  exact heap_alloc_new w (.stringIter ⟨l.toArray⟩ 0)
 have hb1 : Bl w w1 := by rw [hw1]; exact (Bl.refl w).alloc _
 rw [← hw1, ← hK]
 have HK := Lib.hid hK
 have Hst0 := Lib.hid (And.intro hit hb1)
 clear hw1 hK hit hb1
 go_loopw [3] (fun s3 wi => ∃ i : Nat, i ≤ 12 ∧ s3 = .int .i64 (checkSum l i : Int) ∧ wi.heap[K]? = some (.stringIter ⟨l.toArray⟩ i) ∧ Bl w wi) (fun _ wi => 12 - wi.iterPos K)
 case atStart => exact ⟨0, Nat.zero_le _, rfl, Hst0.out⟩
 case round =>
  rename World => wi
  obtain ⟨i, hi, rfl, hit, hbi⟩ := hrel
  by_cases hlt : i < 12
  · have hih : i < (⟨l.toArray⟩ : ByteArray).size := by rw [hsz]; exact hlt
    have hgi := Lib.getElem_mk l i hih
    obtain ⟨b, hb⟩ : ∃ b, b = (⟨l.toArray⟩ : ByteArray)[i]'hih := ⟨_, rfl⟩
    rw [← hb] at hgi
    have hma := made_at HM.out hgi
    have hnx0 := fun ty => Lib.run_next_ascii_at (P := Tryz.prog) wi K ⟨l.toArray⟩ i ty hit hih (by rw [← hb]; omega)
    have h7b : Bl w (wi.iterAt K ⟨l.toArray⟩ (i + 1)) := Lib.below_iterAt hbi (k := K) (by have := HK.out; omega) _ _
    have h7i := Lib.iterAt_heap wi K ⟨l.toArray⟩ i (i + 1) hit
    rw [← hb] at hnx0
    generalize wi.iterAt K ⟨l.toArray⟩ (i + 1) = w7 at hnx0 h7b h7i
    have hnx : ∀ ty, (Instr.next (.pointer (some ⟨K, 0, none⟩)) true ty).run Tryz.prog wi = .ok (.tuple #[.bool true, .int .i64 (i : Int), .int .i32 (b.toNat : Int)]) w7 := hnx0
    obtain ⟨h1, h2⟩ := bytes_at hgi
    have hdg : digOf l i = b.toNat - 48 := by unfold digOf; rw [List.getD_eq_getElem?_getD, hgi]; rfl
    have hst : checkSum l (i + 1) = checkSum l i + digOf l i * (1 + i % 2 * 2) := rfl
    have hle := checkSum_le l (digOf_le HM.out) i
    have hd9 := digOf_le HM.out i
    obtain ⟨s, hs⟩ : ∃ s, s = checkSum l i := ⟨_, rfl⟩
    obtain ⟨d, hd⟩ : ∃ d, d = digOf l i := ⟨_, rfl⟩
    rw [← hs] at hst hle ⊢
    rw [← hd] at hst hd9 hdg
    have hr2 : i % 2 = 0 ∨ i % 2 = 1 := by omega
    have hdb2 : (b.toNat : Int) - 48 = (d : Int) := by omega
    have hmr : (i : Int) % 2 = ((i % 2 : Nat) : Int) := by omega
    obtain ⟨r, hr⟩ : ∃ r, r = i % 2 := ⟨_, rfl⟩
    rw [← hr] at hst hr2 hmr
    have HSt := Lib.hid hst; have HDb := Lib.hid hdb2
    have HN := Lib.hid (And.intro h7i h7b); have Hit := Lib.hid hit
    clear hgi hb hs hd hr hst hdg hdb2 hnx0 h7b h7i hit hbi Hst0
    rcases hr2 with rfl | rfl
    · have HF := Lib.hid (show (s : Int) + (d : Int) = ((checkSum l (i + 1) : Nat) : Int) by rw [HSt.out]; omega)
      clear HSt
      go_wp2_with fail
      exact ⟨⟨i + 1, by omega, by rw [← HF.out, ← HDb.out], HN.out⟩, by simp only [World.iterPos, HN.out.1, Hit.out]; omega⟩
    · have HF := Lib.hid (show (s : Int) + (d : Int) * 3 = ((checkSum l (i + 1) : Nat) : Int) by rw [HSt.out]; omega)
      clear HSt
      go_wp2_with fail
      exact ⟨⟨i + 1, by omega, by rw [← HF.out, ← HDb.out], HN.out⟩, by simp only [World.iterPos, HN.out.1, Hit.out]; omega⟩
  · obtain rfl : i = 12 := by omega
    have hnx : ∀ ty, (Instr.next (.pointer (some ⟨K, 0, none⟩)) true ty).run Tryz.prog wi = .ok (.tuple #[.bool false]) wi := fun ty => Lib.run_next_end_at wi K ⟨l.toArray⟩ 12 ty hit (by rw [hsz]; omega)
    have hle := checkSum_le l (digOf_le HM.out) 12
    have HC := Lib.hid (show (1000 - (checkSum l 12 : Int)) % 10 = (checkOf l : Int) by unfold checkOf; omega)
    obtain ⟨s, hs⟩ : ∃ s, s = checkSum l 12 := ⟨_, rfl⟩
    rw [← hs] at hle HC ⊢
    clear hs hit
    go_wp2_with fail
    go_ret
    exact ⟨ret_int (by rw [← HC.out]), hbi⟩

end Go.Proofs.YthobmednnocklaaGreatDoor


/-! bar.EAN and bedref2.EANOf: the modules of 13 digits. -/
namespace Go.Proofs.YthobmednnocklaaGreatDoor
open Go.RowKit Go.Shelf

def eanErr (l : List UInt8) : Int := if digB l 13 = true then (if checkOf (l.take 12) = digOf l 12 then 0 else 14) else 2
def eanVal (l : List UInt8) : List UInt8 := if eanErr l = 0 then eanOf l else []
theorem slice_ab (l : List UInt8) (a b : Nat) : (⟨l.toArray⟩ : ByteArray).extract a b = ⟨((l.drop a).take (b - a)).toArray⟩ := by
 apply ByteArray.ext
 rw [ByteArray.data_extract]
 apply Array.toList_inj.1
 simp only [Array.toList_extract, List.extract_eq_take_drop]
theorem cat_two (a b : List UInt8) : (⟨a.toArray⟩ : ByteArray) ++ ⟨b.toArray⟩ = ⟨(a ++ b).toArray⟩ := by
 apply ByteArray.ext
 simp [ByteArray.data_append]
theorem eanPart_len (ds : List UInt8) (hd : ∀ i, digOf ds i ≤ 9) : ∀ i, (eanPart ds i).length ≤ 3 + 12 * i
 | 0 => Nat.le_refl _
 | i + 1 => by
  have ih := eanPart_len ds hd i
  have h1 := codeOf_len (kindE ds (i + 1)) (digOf ds (i + 1)) (by have := hd (i + 1); omega)
  show (eanPart ds i ++ (if i = 6 then midE else []) ++ codeOf (kindE ds (i + 1)) (digOf ds (i + 1))).length ≤ _
  rw [List.length_append, List.length_append, h1]
  have : (if i = 6 then midE else []).length ≤ 5 := by split <;> decide
  omega
theorem leftC_at (d : Nat) (h : d < 10) : leftC[d]? = some (leftC.getD d []) := by
 rw [List.getD_eq_getElem?_getD, List.getElem?_eq_getElem (show d < leftC.length from h)]
 rfl
theorem firstC_at (d : Nat) (h : d < 10) : firstC[d]? = some (firstC.getD d []) := by
 rw [List.getD_eq_getElem?_getD, List.getElem?_eq_getElem (show d < firstC.length from h)]
 rfl
theorem row_at (ds : List UInt8) (hd : digOf ds 0 ≤ 9) (j : Nat) (hj : j < 6) : ∃ c, (rowE ds)[j]? = some c ∧ (c = 76 ∨ c = 71) ∧ kindE ds (j + 1) = c := by
 have h : ∀ d < 10, ∀ i < 6, (firstC.getD d []).length = 6 ∧ ((firstC.getD d []).getD i 0 = 76 ∨ (firstC.getD d []).getD i 0 = 71) := by decide +kernel
 obtain ⟨h1, h2⟩ := h (digOf ds 0) (by omega) j hj
 refine ⟨(rowE ds).getD j 0, ?_, h2, ?_⟩
 · have hj' : j < (rowE ds).length := by unfold rowE; rw [h1]; exact hj
   rw [List.getD_eq_getElem?_getD, List.getElem?_eq_getElem hj']
   rfl
 · unfold kindE
   rw [if_neg (by omega), Nat.add_sub_cancel]
theorem codeOf_left (d : Nat) : codeOf 76 d = leftC.getD d [] := rfl
theorem ex_len (d : Nat) (h : d < 10) : (exB (leftC.getD d [])).length = 7 := codeOf_len 82 d h
set_option maxRecDepth 100000 in
set_option maxHeartbeats 4000000 in
theorem ean_any (l : List UInt8) (w : World) (hl : l.length ≤ 9223372036854775807) :
 Calls Tryz.prog 131 #[.string ⟨l.toArray⟩] w fun e w' => e = .returned (.tuple #[.string ⟨(eanVal l).toArray⟩, .int .i64 (eanErr l)]) ∧ Bl w w' := by
 have Hd := Lib.hid (areDigits_any l 13 w hl (by decide))
 have hsz : (⟨l.toArray⟩ : ByteArray).size = l.length := Lib.size_mk l
 obtain ⟨db, hdb⟩ : ∃ db, db = digB l 13 := ⟨_, rfl⟩
 rw [← hdb] at Hd
 go_enter Tryz.func131, Tryz.ntmps131
 go_wp2_with fail
 refine Hd.out.mono ?_
 rintro e w1 ⟨rfl, hb1⟩
 clear Hd
 cases db with
 | false =>
  have hE : eanErr l = 2 := by unfold eanErr; rw [← hdb]; rfl
  have HV := Lib.hid (show eanVal l = [] by unfold eanVal; rw [hE]; rfl)
  have HE := Lib.hid hE
  clear hE hdb
  go_wp2_with fail
  exact bodyPost_ret (v := .tuple #[.string ⟨#[]⟩, .int .i64 2]) (by simp [results, Tryz.results131, go_sem]) rfl ⟨by rw [HV.out, HE.out], hb1⟩
 | true =>
  have hd := hdb.symm
  unfold digB at hd
  simp only [Bool.and_eq_true, decide_eq_true_eq] at hd
  obtain ⟨hlen, hm⟩ := hd
  have hEE : eanErr l = if checkOf (l.take 12) = digOf l 12 then 0 else 14 := by unfold eanErr; rw [← hdb]; rfl
  have HM := Lib.hid hm; have HLen := Lib.hid hlen
  have hlenI : (l.length : Int) = 13 := by omega
  have ht12 : (l.take 12).length = 12 := by rw [List.length_take]; omega
  have hdt : digB (l.take 12) 12 = true := by
   unfold digB
   rw [decide_eq_true ht12]
   unfold madeOf at hm ⊢
   rw [List.all_eq_true] at hm
   show ((l.take 12).all fun b => digits10.contains b) = true
   rw [List.all_eq_true]
   exact fun b hb => hm b (List.mem_of_mem_take hb)
  have hck := fun wx => checkDigit_any (l.take 12) wx (by omega)
  rw [hdt] at hck
  simp only [if_true] at hck
  have hex : (⟨l.toArray⟩ : ByteArray).extract 0 12 = ⟨(l.take 12).toArray⟩ := slice_ab l 0 12
  obtain ⟨b12, hg12, hb12, hd12⟩ := digit_byte hm (i := 12) (by omega)
  obtain ⟨k1, k2⟩ := bytes_at hg12
  obtain ⟨ck, hckk⟩ : ∃ ck, ck = checkOf (l.take 12) := ⟨_, rfl⟩
  obtain ⟨d12, hd12e⟩ : ∃ d, d = digOf l 12 := ⟨_, rfl⟩
  rw [← hckk] at hck hEE
  rw [← hd12e] at hb12 hd12 hEE
  have Hck := Lib.hid hck; have HEE := Lib.hid hEE
  clear hck hEE hm hlen hdt hdb ht12 hg12 hckk hd12e
  go_wp2_with fail
  refine (Hck.out _).mono ?_
  rintro e w2 ⟨rfl, hb2⟩
  have HB2 := Lib.hid (hb1.trans hb2)
  clear Hck hb1 hb2
  by_cases hq : ck = d12
  · have HE := Lib.hid (HEE.out.trans (if_pos hq))
    have HV := Lib.hid (show eanVal l = eanOf l by unfold eanVal; rw [HE.out]; rfl)
    subst hq
    obtain ⟨b0, hg0, hb0, hd0⟩ := digit_byte HM.out (i := 0) (by have := HLen.out; omega)
    obtain ⟨k01, k02⟩ := bytes_at hg0
    obtain ⟨rw0, hrw⟩ : ∃ r, r = rowE l := ⟨_, rfl⟩
    have HRow := Lib.hid hrw
    obtain ⟨d0, hdd0⟩ : ∃ d, d = digOf l 0 := ⟨_, rfl⟩
    rw [← hdd0] at hb0 hd0
    have HRw := Lib.hid (show firstC.getD d0 [] = rw0 by rw [hrw, hdd0]; rfl)
    have hs0 : (48 : Int) + (d0 : Int) - 48 = (d0 : Int) := by omega
    have hs1 : (48 : Int) ≤ 48 + (d0 : Int) := by omega
    have hs2 : (d0 : Int) < (firstC.length : Int) := by show (d0 : Int) < 10; omega
    clear HEE hg0 hrw hdd0
    go_upto_region 6 with fail
    refine wp_region_flow [(true, 1), (true, 2), (true, 3), (false, 0), (true, 4), (true, 5), (true, 6)] (fun _ => false) (by kernel_rfl) (by kernel_rfl) (by kernel_rfl) (by kernel_rfl) ?_
    iterate 1
     apply Flow.mv _ rfl
     · intro K' hK'
       simp only [sqA, Act.eval, arr_getD, List.getD_cons_zero]
       exact hK'
    iterate 2
     apply Flow.calm2 _ _ rfl rfl
     · intro w' hb' K' hK'
       obtain ⟨hc', hf'⟩ := hb'.rule
       go_simp
       try go_ints
       exact hK'
     · intro K' hK'
       simp only [sqA]
       exact hK'
    apply Flow.move rfl
    go_wp2_with fail
    refine (firstCodes_any _).mono ?_
    rintro e w6 ⟨g, rfl, hr6, HB1⟩
    obtain ⟨ad6, e6, c6⟩ := str_at hr6 (firstC_at d0 (by omega))
    obtain rfl := Option.some.inj e6
    rw [add_flat, HRw.out] at c6
    go_wp2_with fail
    refine ⟨fun _ => (by first | exact HB1 | exact Bl.refl _), ?_⟩
    iterate 2
     apply Flow.calm2 _ _ rfl rfl
     · intro w' hb' K' hK'
       obtain ⟨hc', hf'⟩ := hb'.rule
       go_simp
       try go_ints
       exact hK'
     · intro K' hK'
       simp only [sqA]
       exact hK'
    iterate 1
     apply Flow.asg _ rfl
     · intro K' hK'
       simp only [sqA, Act.eval, arr_getD, List.getD_cons_zero, List.getD_cons_succ]
       exact hK'
    refine Flow.done ?_
    have HB6 := Lib.hid (HB2.out.trans (Bl.ofDrew HB1))
    clear hr6 c6 HB1 HB2
    go_wp2_with fail
    have HD := Lib.hid (digOf_le HM.out)
    go_loopw [7, 8] (fun s7 s8 wr => ∃ i j : Nat, i = j + 1 ∧ j ≤ 12 ∧ s8 = .int .i64 (i : Int) ∧ s7 = .string ⟨(eanPart l j).toArray⟩ ∧ Bl w wr) (fun _ v _ => 13 - (RowKit.intOf v).toNat)
    case atStart => exact ⟨1, 0, rfl, by omega, rfl, rfl, HB6.out⟩
    case round =>
     rename World => wr
     obtain ⟨i, j, hij, hj, rfl, rfl, hbr⟩ := hrel
     have HBr := Lib.hid hbr
     clear hbr
     have hpl := eanPart_len l HD.out j
     by_cases hlt : j < 12
     · have hd9 := HD.out i
       obtain ⟨b, hg, hb, -⟩ := digit_byte HM.out (i := i) (by have := HLen.out; omega)
       obtain ⟨m1, m2⟩ := bytes_at hg
       have hst : eanPart l (j + 1) = eanPart l j ++ (if j = 6 then midE else []) ++ codeOf (kindE l (j + 1)) (digOf l (j + 1)) := rfl
       rw [← hij] at hst
       obtain ⟨P, hP⟩ : ∃ P, P = eanPart l j := ⟨_, rfl⟩
       obtain ⟨d, hd⟩ : ∃ d, d = digOf l i := ⟨_, rfl⟩
       rw [← hP] at hst hpl ⊢
       rw [← hd] at hst hb hd9
       have hi13 : (i : Int) < 13 := by omega
       have hi0 : (0 : Int) ≤ (i : Int) := by omega
       have q0 : (48 : Int) + (d : Int) - 48 = (d : Int) := by omega
       have q1 : (48 : Int) ≤ 48 + (d : Int) := by omega
       have q2 : (d : Int) < (leftC.length : Int) := by show (d : Int) < 10; omega
       have hL7 := codeOf_len 76 d (by omega)
       rw [codeOf_left] at hL7
       have hE7 := ex_len d (by omega)
       have hF7 : (exB (leftC.getD d [])).reverse.length = 7 := by rw [List.length_reverse]; exact hE7
       have hcE := fun wx => exchanged_any d (by omega) wx
       have hcF := fun wx => backwards_any (exB (leftC.getD d [])) wx (by omega)
       unfold FlipRes at hcF
       obtain ⟨E, hE⟩ : ∃ E, E = exB (leftC.getD d []) := ⟨_, rfl⟩
       obtain ⟨F, hF⟩ : ∃ F, F = E.reverse := ⟨_, rfl⟩
       rw [← hE] at hE7 hF7 hcE hcF
       rw [← hF] at hF7 hcF
       obtain ⟨L, hL⟩ : ∃ L, L = leftC.getD d [] := ⟨_, rfl⟩
       rw [← hL] at hL7 hcE
       have HL := Lib.hid (show leftC[d]? = some L from hL ▸ leftC_at d (by omega))
       have HcE := Lib.hid hcE; have HcF := Lib.hid hcF
       have hsP : (⟨P.toArray⟩ : ByteArray).size = P.length := Lib.size_mk P
       have hsL : (⟨L.toArray⟩ : ByteArray).size = L.length := Lib.size_mk L
       have hsE : (⟨E.toArray⟩ : ByteArray).size = E.length := Lib.size_mk E
       have hsF : (⟨F.toArray⟩ : ByteArray).size = F.length := Lib.size_mk F
       have hoL : ¬ (9223372036854775807 < P.length + L.length) := by omega
       have hoE : ¬ (9223372036854775807 < P.length + E.length) := by omega
       have hoF : ¬ (9223372036854775807 < P.length + F.length) := by omega
       have HHL := Lib.hid (show codeOf 76 d = L from hL.symm)
       have HHE := Lib.hid (show codeOf 82 d = E from hE.symm)
       have HHF := Lib.hid (show codeOf 71 d = F by rw [hF, hE]; rfl)
       clear hP hd hg hE hF hL hcE hcF
       by_cases h6 : j < 6
       · obtain ⟨c, hrc, hc, hk⟩ := row_at l (by have := HD.out 0; omega) j h6
         rw [← HRow.out] at hrc
         obtain ⟨n1, n2⟩ := bytes_at hrc
         have hjm : (i : Int) - 1 = (j : Int) := by omega
         have hq7 : ((i : Int) == 7) = false := by rw [beq_eq_false_iff_ne]; omega
         have hlt7 : (i : Int) < 7 := by omega
         rw [← hij] at hk
         rw [if_neg (show ¬ j = 6 by omega), List.append_nil, hk] at hst
         have HIJ := Lib.hid hij; have HSt := Lib.hid hst
         clear hst hij hk hrc
         go_upto_region 13 with fail
         refine wp_region_flow [(true, 1), (true, 2), (true, 3), (true, 4), (false, 0), (true, 5), (true, 6), (true, 7)] (fun _ => false) (by kernel_rfl) (by kernel_rfl) (by kernel_rfl) (by kernel_rfl) ?_
         iterate 2
          apply Flow.mv _ rfl
          · intro K' hK'
            simp only [sqA, Act.eval, arr_getD, List.getD_cons_zero, List.getD_cons_succ]
            exact hK'
         iterate 2
          apply Flow.calm2 _ _ rfl rfl
          · intro w' hb' K' hK'
            obtain ⟨hc', hf'⟩ := hb'.rule
            go_simp
            try go_ints
            exact hK'
          · intro K' hK'
            simp only [sqA]
            exact hK'
         apply Flow.move rfl
         go_wp2_with fail
         refine (leftCodes_any _).mono ?_
         rintro e w6 ⟨g, rfl, hr6, HB1⟩
         obtain ⟨ad6, e6, c6⟩ := str_at hr6 HL.out
         obtain rfl := Option.some.inj e6
         rw [add_flat] at c6
         go_wp2_with fail
         refine ⟨fun _ => (by first | exact HB1 | exact Bl.refl _), ?_⟩
         iterate 2
          apply Flow.calm2 _ _ rfl rfl
          · intro w' hb' K' hK'
            obtain ⟨hc', hf'⟩ := hb'.rule
            go_simp
            try go_ints
            exact hK'
          · intro K' hK'
            simp only [sqA]
            exact hK'
         iterate 1
          apply Flow.asg _ rfl
          · intro K' hK'
            simp only [sqA, Act.eval, arr_getD, List.getD_cons_zero, List.getD_cons_succ]
            exact hK'
         refine Flow.done ?_
         have HB7 := Lib.hid (HBr.out.trans (Bl.ofDrew HB1))
         clear hr6 c6 HB1 HBr
         rcases hc with rfl | rfl
         · have HSn := Lib.hid (HSt.out.trans (by rw [HHL.out]))
           have hcat := cat_two P L
           clear HSt
           go_wp2_with fail
           exact ⟨⟨i + 1, i, rfl, by omega, by go_num, by rw [HSn.out, ← hcat], HB7.out⟩, by simp [RowKit.intOf] <;> omega⟩
         · have HSn := Lib.hid (HSt.out.trans (by rw [HHF.out]))
           have hcat := cat_two P F
           clear HSt
           go_wp2_with fail
           refine (HcE.out _).mono ?_
           rintro e w8 ⟨rfl, hb8⟩
           have HB8 := Lib.hid (HB7.out.trans hb8)
           clear hb8 HB7
           go_wp2_with fail
           refine (HcF.out _).mono ?_
           rintro e w9 ⟨rfl, hb9⟩
           have HB9 := Lib.hid (HB8.out.trans hb9)
           clear hb9 HB8
           go_wp2_with fail
           exact ⟨⟨i + 1, i, rfl, by omega, by go_num, by rw [HSn.out, ← hcat], HB9.out⟩, by simp [RowKit.intOf] <;> omega⟩
       · have hk : kindE l i = 82 := by rw [hij]; exact kindE_high l j (by omega)
         rw [hk, HHE.out] at hst
         have hge7 : (7 : Int) ≤ (i : Int) := by omega
         have hnl7 : ¬ ((i : Int) < 7) := by omega
         by_cases h7 : j = 6
         · rw [if_pos h7] at hst
           have hi7 : i = 7 := by omega
           have hq7 : ((i : Int) == 7) = true := by rw [beq_iff_eq]; omega
           have hoM : ¬ (9223372036854775807 < P.length + 5) := by omega
           have hcM : (⟨P.toArray⟩ : ByteArray) ++ ⟨#[48, 49, 48, 49, 48]⟩ = ⟨(P ++ midE).toArray⟩ := cat_two P midE
           have hlM : (P ++ midE).length = P.length + 5 := by rw [List.length_append]; rfl
           obtain ⟨Q, hQ⟩ : ∃ Q, Q = P ++ midE := ⟨_, rfl⟩
           rw [← hQ] at hcM hlM hst
           have hsQ : (⟨Q.toArray⟩ : ByteArray).size = Q.length := Lib.size_mk Q
           have hoQ : ¬ (9223372036854775807 < Q.length + E.length) := by omega
           have HSn := Lib.hid hst
           have hcat := cat_two Q E
           have HIJ := Lib.hid hij; have HI7 := Lib.hid hi7
           have hj6 : j ≤ 6 := by omega
           clear hQ hst hij hi7 h7 h6 hk hlM
           go_upto_region 13 with fail
           refine wp_region_flow [(true, 1), (true, 2), (true, 3), (true, 4), (false, 0), (true, 5), (true, 6), (true, 7)] (fun _ => false) (by kernel_rfl) (by kernel_rfl) (by kernel_rfl) (by kernel_rfl) ?_
           iterate 2
            apply Flow.mv _ rfl
            · intro K' hK'
              simp only [sqA, Act.eval, arr_getD, List.getD_cons_zero, List.getD_cons_succ]
              exact hK'
           iterate 2
            apply Flow.calm2 _ _ rfl rfl
            · intro w' hb' K' hK'
              obtain ⟨hc', hf'⟩ := hb'.rule
              go_simp
              try go_ints
              exact hK'
            · intro K' hK'
              simp only [sqA]
              exact hK'
           apply Flow.move rfl
           go_wp2_with fail
           refine (leftCodes_any _).mono ?_
           rintro e w6 ⟨g, rfl, hr6, HB1⟩
           obtain ⟨ad6, e6, c6⟩ := str_at hr6 HL.out
           obtain rfl := Option.some.inj e6
           rw [add_flat] at c6
           go_wp2_with fail
           refine ⟨fun _ => (by first | exact HB1 | exact Bl.refl _), ?_⟩
           iterate 2
            apply Flow.calm2 _ _ rfl rfl
            · intro w' hb' K' hK'
              obtain ⟨hc', hf'⟩ := hb'.rule
              go_simp
              try go_ints
              exact hK'
            · intro K' hK'
              simp only [sqA]
              exact hK'
           iterate 1
            apply Flow.asg _ rfl
            · intro K' hK'
              simp only [sqA, Act.eval, arr_getD, List.getD_cons_zero, List.getD_cons_succ]
              exact hK'
           refine Flow.done ?_
           have HB7 := Lib.hid (HBr.out.trans (Bl.ofDrew HB1))
           clear hr6 c6 HB1 HBr
           go_wp2_with fail
           refine (HcE.out _).mono ?_
           rintro e w8 ⟨rfl, hb8⟩
           have HB8 := Lib.hid (HB7.out.trans hb8)
           clear hb8 HB7
           go_wp2_with fail
           exact ⟨⟨i + 1, i, rfl, by have := HIJ.out; omega, by go_num, by rw [HSn.out, ← hcat], HB8.out⟩, by simp [RowKit.intOf] <;> omega⟩
         · rw [if_neg h7, List.append_nil] at hst
           have hq7 : ((i : Int) == 7) = false := by rw [beq_eq_false_iff_ne]; omega
           have HSn := Lib.hid hst
           have hcat := cat_two P E
           have HIJ := Lib.hid hij; have H7 := Lib.hid h7
           clear hst hij h7 hk
           go_upto_region 13 with fail
           refine wp_region_flow [(true, 1), (true, 2), (true, 3), (true, 4), (false, 0), (true, 5), (true, 6), (true, 7)] (fun _ => false) (by kernel_rfl) (by kernel_rfl) (by kernel_rfl) (by kernel_rfl) ?_
           iterate 2
            apply Flow.mv _ rfl
            · intro K' hK'
              simp only [sqA, Act.eval, arr_getD, List.getD_cons_zero, List.getD_cons_succ]
              exact hK'
           iterate 2
            apply Flow.calm2 _ _ rfl rfl
            · intro w' hb' K' hK'
              obtain ⟨hc', hf'⟩ := hb'.rule
              go_simp
              try go_ints
              exact hK'
            · intro K' hK'
              simp only [sqA]
              exact hK'
           apply Flow.move rfl
           go_wp2_with fail
           refine (leftCodes_any _).mono ?_
           rintro e w6 ⟨g, rfl, hr6, HB1⟩
           obtain ⟨ad6, e6, c6⟩ := str_at hr6 HL.out
           obtain rfl := Option.some.inj e6
           rw [add_flat] at c6
           go_wp2_with fail
           refine ⟨fun _ => (by first | exact HB1 | exact Bl.refl _), ?_⟩
           iterate 2
            apply Flow.calm2 _ _ rfl rfl
            · intro w' hb' K' hK'
              obtain ⟨hc', hf'⟩ := hb'.rule
              go_simp
              try go_ints
              exact hK'
            · intro K' hK'
              simp only [sqA]
              exact hK'
           iterate 1
            apply Flow.asg _ rfl
            · intro K' hK'
              simp only [sqA, Act.eval, arr_getD, List.getD_cons_zero, List.getD_cons_succ]
              exact hK'
           refine Flow.done ?_
           have HB7 := Lib.hid (HBr.out.trans (Bl.ofDrew HB1))
           clear hr6 c6 HB1 HBr
           go_wp2_with fail
           refine (HcE.out _).mono ?_
           rintro e w8 ⟨rfl, hb8⟩
           have HB8 := Lib.hid (HB7.out.trans hb8)
           clear hb8 HB7
           go_wp2_with fail
           exact ⟨⟨i + 1, i, rfl, by have := HIJ.out; omega, by go_num, by rw [HSn.out, ← hcat], HB8.out⟩, by simp [RowKit.intOf] <;> omega⟩
     · obtain rfl : j = 12 := by omega
       have hi13 : ¬ ((i : Int) < 13) := by omega
       have hfin : eanOf l = eanPart l 12 ++ endE := rfl
       obtain ⟨P, hP⟩ : ∃ P, P = eanPart l 12 := ⟨_, rfl⟩
       rw [← hP] at hfin hpl ⊢
       have hsP : (⟨P.toArray⟩ : ByteArray).size = P.length := Lib.size_mk P
       have hoM : ¬ (9223372036854775807 < P.length + 3) := by omega
       have HV2 := Lib.hid (HV.out.trans hfin)
       have hcM : (⟨P.toArray⟩ : ByteArray) ++ ⟨#[49, 48, 49]⟩ = ⟨(P ++ endE).toArray⟩ := cat_two P endE
       clear hP hfin
       go_wp2_with fail
       exact bodyPost_ret (v := .tuple #[.string ⟨(P ++ endE).toArray⟩, .int .i64 0]) (by simp [results, Tryz.results131, go_sem]) rfl ⟨by rw [HV2.out, HE.out], HBr.out⟩
  · have HE := Lib.hid (HEE.out.trans (if_neg hq))
    have HV := Lib.hid (show eanVal l = [] by unfold eanVal; rw [HE.out]; rfl)
    have hq' : (ck : Int) ≠ (d12 : Int) := by omega
    clear HEE hq
    go_wp2_with fail
    exact bodyPost_ret (v := .tuple #[.string ⟨#[]⟩, .int .i64 14]) (by simp [results, Tryz.results131, go_sem]) rfl ⟨by rw [HV.out, HE.out], HB2.out⟩

end Go.Proofs.YthobmednnocklaaGreatDoor


/-! bedref2.EANOf: the modules of 13 right digits. -/
namespace Go.Proofs.YthobmednnocklaaGreatDoor
open Go.RowKit Go.Shelf

def refPart (ds : List UInt8) (j : Nat) : List UInt8 := eanPart ds j ++ (if j = 6 then midE else [])
theorem eanPart_ref (ds : List UInt8) (j : Nat) : eanPart ds (j + 1) = refPart ds j ++ codeOf (kindE ds (j + 1)) (digOf ds (j + 1)) := rfl
set_option maxRecDepth 100000 in
set_option maxHeartbeats 4000000 in
theorem eanOf_any (l : List UInt8) (w : World) (hlen : l.length = 13) (hm : madeOf l digits10 = true) (hT : SpOk w) :
 Calls Tryz.prog 153 #[.string ⟨l.toArray⟩] w fun e w' => e = .returned (.string ⟨(eanOf l).toArray⟩) ∧ Bl w w' := by
 have hsz : (⟨l.toArray⟩ : ByteArray).size = l.length := Lib.size_mk l
 have hlenI : (l.length : Int) = 13 := by omega
 have HM := Lib.hid hm; have HLen := Lib.hid hlen; have HT := Lib.hid hT
 obtain ⟨b0, hg0, hb0, hd0⟩ := digit_byte hm (i := 0) (by omega)
 obtain ⟨k01, k02⟩ := bytes_at hg0
 obtain ⟨rw0, hrw⟩ : ∃ r, r = rowE l := ⟨_, rfl⟩
 have HRow := Lib.hid hrw
 obtain ⟨d0, hdd0⟩ : ∃ d, d = digOf l 0 := ⟨_, rfl⟩
 rw [← hdd0] at hb0 hd0
 have HRw := Lib.hid (show firstC.getD d0 [] = rw0 by rw [hrw, hdd0]; rfl)
 have hs0 : (48 : Int) + (d0 : Int) - 48 = (d0 : Int) := by omega
 have hs1 : (48 : Int) ≤ 48 + (d0 : Int) := by omega
 have hs2 : (d0 : Int) < (firstC.length : Int) := by show (d0 : Int) < 10; omega
 clear hg0 hrw hdd0 hm hlen hT
 go_enter Tryz.func153, Tryz.ntmps153
 go_upto_region 2 with fail
 refine wp_region_flow [(true, 1), (true, 2), (true, 3), (false, 0), (true, 4), (true, 5), (true, 6)] (fun _ => false) (by kernel_rfl) (by kernel_rfl) (by kernel_rfl) (by kernel_rfl) ?_
 iterate 1
  apply Flow.mv _ rfl
  · intro K' hK'
    simp only [sqA, Act.eval, arr_getD, List.getD_cons_zero]
    exact hK'
 iterate 2
  apply Flow.calm2 _ _ rfl rfl
  · intro w' hb' K' hK'
    obtain ⟨hc', hf'⟩ := hb'.rule
    go_simp
    try go_ints
    exact hK'
  · intro K' hK'
    simp only [sqA]
    exact hK'
 apply Flow.move rfl
 go_wp2_with fail
 refine (rowsE_any _ (HT.out.bl (Bl.refl _).drew)).mono ?_
 rintro e w6 ⟨g, rfl, hr6, HB1⟩
 obtain ⟨ad6, e6, c6⟩ := str_at hr6 (firstC_at d0 (by omega))
 obtain rfl := Option.some.inj e6
 rw [add_flat, HRw.out] at c6
 go_wp2_with fail
 refine ⟨fun _ => (by first | exact HB1 | exact Bl.refl _), ?_⟩
 iterate 2
  apply Flow.calm2 _ _ rfl rfl
  · intro w' hb' K' hK'
    obtain ⟨hc', hf'⟩ := hb'.rule
    go_simp
    try go_ints
    exact hK'
  · intro K' hK'
    simp only [sqA]
    exact hK'
 iterate 1
  apply Flow.asg _ rfl
  · intro K' hK'
    simp only [sqA, Act.eval, arr_getD, List.getD_cons_zero, List.getD_cons_succ]
    exact hK'
 refine Flow.done ?_
 have HB6 := Lib.hid (Bl.ofDrew HB1)
 clear hr6 c6 HB1
 go_wp2_with fail
 have HD := Lib.hid (digOf_le HM.out)
 go_loopw [3, 5] (fun s7 s8 wr => ∃ i j : Nat, i = j + 1 ∧ j ≤ 12 ∧ s8 = .int .i64 (i : Int) ∧ s7 = .string ⟨(refPart l j).toArray⟩ ∧ Bl w wr) (fun _ v _ => 13 - (RowKit.intOf v).toNat)
 case atStart => exact ⟨1, 0, rfl, by omega, rfl, rfl, HB6.out⟩
 case round =>
  rename World => wr
  obtain ⟨i, j, hij, hj, rfl, rfl, hbr⟩ := hrel
  have HBr := Lib.hid hbr
  clear hbr
  have hpl : (refPart l j).length ≤ 200 := by
   have h1 := eanPart_len l HD.out j
   unfold refPart
   rw [List.length_append]
   have : (if j = 6 then midE else []).length ≤ 5 := by split <;> decide
   omega
  by_cases hlt : j < 12
  · have hd9 := HD.out i
    obtain ⟨b, hg, hb, -⟩ := digit_byte HM.out (i := i) (by have := HLen.out; omega)
    obtain ⟨m1, m2⟩ := bytes_at hg
    have hst := eanPart_ref l j
    rw [← hij] at hst
    obtain ⟨P, hP⟩ : ∃ P, P = refPart l j := ⟨_, rfl⟩
    obtain ⟨d, hd⟩ : ∃ d, d = digOf l i := ⟨_, rfl⟩
    rw [← hP] at hst hpl ⊢
    rw [← hd] at hst hb hd9
    have hi13 : (i : Int) < 13 := by omega
    have hi0 : (0 : Int) ≤ (i : Int) := by omega
    have q0 : (48 : Int) + (d : Int) - 48 = (d : Int) := by omega
    have q1 : (48 : Int) ≤ 48 + (d : Int) := by omega
    have q2 : (d : Int) < (leftC.length : Int) := by show (d : Int) < 10; omega
    have hL7 := codeOf_len 76 d (by omega)
    rw [codeOf_left] at hL7
    have hE7 := ex_len d (by omega)
    have hF7 : (exB (leftC.getD d [])).reverse.length = 7 := by rw [List.length_reverse]; exact hE7
    have hcE := fun wx => right_any d (by omega) wx
    have hcF := fun wx => flip_any (exB (leftC.getD d [])) wx (by omega)
    unfold FlipRes at hcF
    obtain ⟨E, hE⟩ : ∃ E, E = exB (leftC.getD d []) := ⟨_, rfl⟩
    obtain ⟨F, hF⟩ : ∃ F, F = E.reverse := ⟨_, rfl⟩
    rw [← hE] at hE7 hF7 hcE hcF
    rw [← hF] at hF7 hcF
    obtain ⟨L, hL⟩ : ∃ L, L = leftC.getD d [] := ⟨_, rfl⟩
    rw [← hL] at hL7 hcE
    have HL := Lib.hid (show leftC[d]? = some L from hL ▸ leftC_at d (by omega))
    have HcE := Lib.hid hcE; have HcF := Lib.hid hcF
    have hsP : (⟨P.toArray⟩ : ByteArray).size = P.length := Lib.size_mk P
    have hsL : (⟨L.toArray⟩ : ByteArray).size = L.length := Lib.size_mk L
    have hsE : (⟨E.toArray⟩ : ByteArray).size = E.length := Lib.size_mk E
    have hsF : (⟨F.toArray⟩ : ByteArray).size = F.length := Lib.size_mk F
    have HHL := Lib.hid (show codeOf 76 d = L from hL.symm)
    have HHE := Lib.hid (show codeOf 82 d = E from hE.symm)
    have HHF := Lib.hid (show codeOf 71 d = F by rw [hF, hE]; rfl)
    clear hP hd hg hE hF hL hcE hcF
    have HJ := Lib.hid hlt
    by_cases h6 : j < 6
    · obtain ⟨c, hrc, hc, hk⟩ := row_at l (by have := HD.out 0; omega) j h6
      rw [← HRow.out] at hrc
      obtain ⟨n1, n2⟩ := bytes_at hrc
      have hjm : (i : Int) - 1 = (j : Int) := by omega
      have hlt7 : (i : Int) ≤ 6 := by omega
      rw [← hij] at hk
      rw [hk] at hst
      have HSt := Lib.hid hst
      clear hst hk hrc
      by_cases hj5 : j = 5
      · have HI6 := Lib.hid (show i = 6 by omega)
        have hq6 : ((i : Int) == 6) = true := by rw [beq_iff_eq]; omega
        have hij6 : i ≤ 6 := by omega
        clear hij hj5
        go_upto_region 6 with fail
        refine wp_region_flow [(true, 1), (true, 2), (true, 3), (true, 4), (false, 0), (true, 5), (true, 6), (true, 7)] (fun _ => false) (by kernel_rfl) (by kernel_rfl) (by kernel_rfl) (by kernel_rfl) ?_
        iterate 2
         apply Flow.mv _ rfl
         · intro K' hK'
           simp only [sqA, Act.eval, arr_getD, List.getD_cons_zero, List.getD_cons_succ]
           exact hK'
        iterate 2
         apply Flow.calm2 _ _ rfl rfl
         · intro w' hb' K' hK'
           obtain ⟨hc', hf'⟩ := hb'.rule
           go_simp
           try go_ints
           exact hK'
         · intro K' hK'
           simp only [sqA]
           exact hK'
        apply Flow.move rfl
        go_wp2_with fail
        refine (left_any _ (HT.out.bl (HBr.out.trans (Bl.refl _).drew))).mono ?_
        rintro e w6 ⟨g, rfl, hr6, HB1⟩
        obtain ⟨ad6, e6, c6⟩ := str_at hr6 HL.out
        obtain rfl := Option.some.inj e6
        rw [add_flat] at c6
        go_wp2_with fail
        refine ⟨fun _ => (by first | exact HB1 | exact Bl.refl _), ?_⟩
        iterate 2
         apply Flow.calm2 _ _ rfl rfl
         · intro w' hb' K' hK'
           obtain ⟨hc', hf'⟩ := hb'.rule
           go_simp
           try go_ints
           exact hK'
         · intro K' hK'
           simp only [sqA]
           exact hK'
        iterate 1
         apply Flow.asg _ rfl
         · intro K' hK'
           simp only [sqA, Act.eval, arr_getD, List.getD_cons_zero, List.getD_cons_succ]
           exact hK'
        refine Flow.done ?_
        have HB7 := Lib.hid (HBr.out.trans (Bl.ofDrew HB1))
        clear hr6 c6 HB1 HBr
        rcases hc with rfl | rfl
        · have hoX : ¬ (9223372036854775807 < P.length + L.length) := by omega
          have hcat := cat_two P L
          obtain ⟨Q, hQ⟩ : ∃ Q, Q = P ++ L := ⟨_, rfl⟩
          rw [← hQ] at hcat
          have hsQ : (⟨Q.toArray⟩ : ByteArray).size = Q.length := Lib.size_mk Q
          have hoQ : ¬ (9223372036854775807 < Q.length + 5) := by rw [hQ, List.length_append]; omega
          have hcM : (⟨Q.toArray⟩ : ByteArray) ++ ⟨#[48, 49, 48, 49, 48]⟩ = ⟨(Q ++ midE).toArray⟩ := cat_two Q midE
          have HSn := Lib.hid (show refPart l i = Q ++ midE by unfold refPart; rw [HSt.out, HHL.out, ← hQ, if_pos HI6.out])
          clear hQ
          clear HSt
          go_wp2_with fail
          exact ⟨⟨i + 1, i, rfl, by have := HJ.out; omega, by go_num, by rw [HSn.out, ← hcM], HB7.out⟩, by simp [RowKit.intOf] <;> omega⟩
        · have hoX : ¬ (9223372036854775807 < P.length + F.length) := by omega
          have hcat := cat_two P F
          obtain ⟨Q, hQ⟩ : ∃ Q, Q = P ++ F := ⟨_, rfl⟩
          rw [← hQ] at hcat
          have hsQ : (⟨Q.toArray⟩ : ByteArray).size = Q.length := Lib.size_mk Q
          have hoQ : ¬ (9223372036854775807 < Q.length + 5) := by rw [hQ, List.length_append]; omega
          have hcM : (⟨Q.toArray⟩ : ByteArray) ++ ⟨#[48, 49, 48, 49, 48]⟩ = ⟨(Q ++ midE).toArray⟩ := cat_two Q midE
          have HSn := Lib.hid (show refPart l i = Q ++ midE by unfold refPart; rw [HSt.out, HHF.out, ← hQ, if_pos HI6.out])
          clear hQ
          clear HSt
          go_wp2_with fail
          refine (HcE.out _).mono ?_
          rintro e w8 ⟨rfl, hb8⟩
          have HB8 := Lib.hid (HB7.out.trans hb8)
          clear hb8 HB7
          go_wp2_with fail
          refine (HcF.out _).mono ?_
          rintro e w9 ⟨rfl, hb9⟩
          have HB9 := Lib.hid (HB8.out.trans hb9)
          clear hb9 HB8
          go_wp2_with fail
          exact ⟨⟨i + 1, i, rfl, by have := HJ.out; omega, by go_num, by rw [HSn.out, ← hcM], HB9.out⟩, by simp [RowKit.intOf] <;> omega⟩
      · have HI6 := Lib.hid (show ¬ i = 6 by omega)
        have hq6 : ((i : Int) == 6) = false := by rw [beq_eq_false_iff_ne]; omega
        clear hij hj5
        go_upto_region 6 with fail
        refine wp_region_flow [(true, 1), (true, 2), (true, 3), (true, 4), (false, 0), (true, 5), (true, 6), (true, 7)] (fun _ => false) (by kernel_rfl) (by kernel_rfl) (by kernel_rfl) (by kernel_rfl) ?_
        iterate 2
         apply Flow.mv _ rfl
         · intro K' hK'
           simp only [sqA, Act.eval, arr_getD, List.getD_cons_zero, List.getD_cons_succ]
           exact hK'
        iterate 2
         apply Flow.calm2 _ _ rfl rfl
         · intro w' hb' K' hK'
           obtain ⟨hc', hf'⟩ := hb'.rule
           go_simp
           try go_ints
           exact hK'
         · intro K' hK'
           simp only [sqA]
           exact hK'
        apply Flow.move rfl
        go_wp2_with fail
        refine (left_any _ (HT.out.bl (HBr.out.trans (Bl.refl _).drew))).mono ?_
        rintro e w6 ⟨g, rfl, hr6, HB1⟩
        obtain ⟨ad6, e6, c6⟩ := str_at hr6 HL.out
        obtain rfl := Option.some.inj e6
        rw [add_flat] at c6
        go_wp2_with fail
        refine ⟨fun _ => (by first | exact HB1 | exact Bl.refl _), ?_⟩
        iterate 2
         apply Flow.calm2 _ _ rfl rfl
         · intro w' hb' K' hK'
           obtain ⟨hc', hf'⟩ := hb'.rule
           go_simp
           try go_ints
           exact hK'
         · intro K' hK'
           simp only [sqA]
           exact hK'
        iterate 1
         apply Flow.asg _ rfl
         · intro K' hK'
           simp only [sqA, Act.eval, arr_getD, List.getD_cons_zero, List.getD_cons_succ]
           exact hK'
        refine Flow.done ?_
        have HB7 := Lib.hid (HBr.out.trans (Bl.ofDrew HB1))
        clear hr6 c6 HB1 HBr
        rcases hc with rfl | rfl
        · have hoX : ¬ (9223372036854775807 < P.length + L.length) := by omega
          have hcat := cat_two P L
          have HSn := Lib.hid (show refPart l i = P ++ L by unfold refPart; rw [HSt.out, HHL.out, if_neg HI6.out, List.append_nil])
          clear HSt
          go_wp2_with fail
          exact ⟨⟨i + 1, i, rfl, by have := HJ.out; omega, by go_num, by rw [HSn.out, ← hcat], HB7.out⟩, by simp [RowKit.intOf] <;> omega⟩
        · have hoX : ¬ (9223372036854775807 < P.length + F.length) := by omega
          have hcat := cat_two P F
          have HSn := Lib.hid (show refPart l i = P ++ F by unfold refPart; rw [HSt.out, HHF.out, if_neg HI6.out, List.append_nil])
          clear HSt
          go_wp2_with fail
          refine (HcE.out _).mono ?_
          rintro e w8 ⟨rfl, hb8⟩
          have HB8 := Lib.hid (HB7.out.trans hb8)
          clear hb8 HB7
          go_wp2_with fail
          refine (HcF.out _).mono ?_
          rintro e w9 ⟨rfl, hb9⟩
          have HB9 := Lib.hid (HB8.out.trans hb9)
          clear hb9 HB8
          go_wp2_with fail
          exact ⟨⟨i + 1, i, rfl, by have := HJ.out; omega, by go_num, by rw [HSn.out, ← hcat], HB9.out⟩, by simp [RowKit.intOf] <;> omega⟩
    · have hk : kindE l i = 82 := by rw [hij]; exact kindE_high l j (by omega)
      rw [hk] at hst
      have HSt := Lib.hid hst
      have hgt6 : (6 : Int) < (i : Int) := by omega
      have hnl6 : ¬ ((i : Int) ≤ 6) := by omega
      have HI6 := Lib.hid (show ¬ i = 6 by omega)
      have hq6 : ((i : Int) == 6) = false := by rw [beq_eq_false_iff_ne]; omega
      clear hst hk hij
      go_upto_region 6 with fail
      refine wp_region_flow [(true, 1), (true, 2), (true, 3), (true, 4), (false, 0), (true, 5), (true, 6), (true, 7)] (fun _ => false) (by kernel_rfl) (by kernel_rfl) (by kernel_rfl) (by kernel_rfl) ?_
      iterate 2
       apply Flow.mv _ rfl
       · intro K' hK'
         simp only [sqA, Act.eval, arr_getD, List.getD_cons_zero, List.getD_cons_succ]
         exact hK'
      iterate 2
       apply Flow.calm2 _ _ rfl rfl
       · intro w' hb' K' hK'
         obtain ⟨hc', hf'⟩ := hb'.rule
         go_simp
         try go_ints
         exact hK'
       · intro K' hK'
         simp only [sqA]
         exact hK'
      apply Flow.move rfl
      go_wp2_with fail
      refine (left_any _ (HT.out.bl (HBr.out.trans (Bl.refl _).drew))).mono ?_
      rintro e w6 ⟨g, rfl, hr6, HB1⟩
      obtain ⟨ad6, e6, c6⟩ := str_at hr6 HL.out
      obtain rfl := Option.some.inj e6
      rw [add_flat] at c6
      go_wp2_with fail
      refine ⟨fun _ => (by first | exact HB1 | exact Bl.refl _), ?_⟩
      iterate 2
       apply Flow.calm2 _ _ rfl rfl
       · intro w' hb' K' hK'
         obtain ⟨hc', hf'⟩ := hb'.rule
         go_simp
         try go_ints
         exact hK'
       · intro K' hK'
         simp only [sqA]
         exact hK'
      iterate 1
       apply Flow.asg _ rfl
       · intro K' hK'
         simp only [sqA, Act.eval, arr_getD, List.getD_cons_zero, List.getD_cons_succ]
         exact hK'
      refine Flow.done ?_
      have HB7 := Lib.hid (HBr.out.trans (Bl.ofDrew HB1))
      clear hr6 c6 HB1 HBr
      have hoX : ¬ (9223372036854775807 < P.length + E.length) := by omega
      have hcat := cat_two P E
      have HSn := Lib.hid (show refPart l i = P ++ E by unfold refPart; rw [HSt.out, HHE.out, if_neg HI6.out, List.append_nil])
      clear HSt
      go_wp2_with fail
      refine (HcE.out _).mono ?_
      rintro e w8 ⟨rfl, hb8⟩
      have HB8 := Lib.hid (HB7.out.trans hb8)
      clear hb8 HB7
      go_wp2_with fail
      exact ⟨⟨i + 1, i, rfl, by have := HJ.out; omega, by go_num, by rw [HSn.out, ← hcat], HB8.out⟩, by simp [RowKit.intOf] <;> omega⟩
  · obtain rfl : j = 12 := by omega
    have hi13 : ¬ ((i : Int) < 13) := by omega
    have hfin : eanOf l = refPart l 12 ++ endE := by unfold refPart; rw [if_neg (by decide), List.append_nil]; rfl
    obtain ⟨P, hP⟩ : ∃ P, P = refPart l 12 := ⟨_, rfl⟩
    rw [← hP] at hfin hpl ⊢
    have hsP : (⟨P.toArray⟩ : ByteArray).size = P.length := Lib.size_mk P
    have hoM : ¬ (9223372036854775807 < P.length + 3) := by omega
    have HV2 := Lib.hid hfin
    have hcM : (⟨P.toArray⟩ : ByteArray) ++ ⟨#[49, 48, 49]⟩ = ⟨(P ++ endE).toArray⟩ := cat_two P endE
    clear hP hfin
    go_wp2_with fail
    go_ret
    exact ⟨by rw [HV2.out, ← hcM]; rfl, HBr.out⟩

end Go.Proofs.YthobmednnocklaaGreatDoor
