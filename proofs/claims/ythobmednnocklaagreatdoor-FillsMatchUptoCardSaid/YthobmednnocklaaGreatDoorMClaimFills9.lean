/- bedref2.DrawOf. -/
import Derived.Test.YthobmednnocklaaGreatDoorMClaimFills1
import Derived.Test.YthobmednnocklaaGreatDoorMClaimFills6
import Derived.Test.YthobmednnocklaaGreatDoorMClaimFills4
import Derived.Test.YthobmednnocklaaGreatDoorMClaimFills2
import Derived.Test.YthobmednnocklaaGreatDoorMClaimFills8
import Derived.Test.YthobmednnocklaaGreatDoorMClaimFills0
import Derived.Lib.SliceRun
import Derived.Shelf.Strings.Cut
import Derived.Lib.CutLaws
import Derived.Lib.SlTrimSet
import Derived.Shelf.Strings.Split
import Derived.Shelf.Lay
import Derived.Shelf.LaySoft
import Derived.Ground.NamesProg
import Derived.HandedShaped
import Derived.Shelf.Vars

namespace Go.Proofs.YthobmednnocklaaGreatDoor
open Go.RowKit

/-- A page: its size, where its pixels lie, and what they are. -/
structure Pg where
 W : Int
 H : Int
 A : Option Addr
 m : Nat
 c : Nat
 bs : List Bool
def Pg.cells (p : Pg) : List Value := [.int .i64 p.W, .int .i64 p.H, .slice p.A p.m p.c]
def Pg.val (p : Pg) : Value := .agg #[.int .i64 p.W, .int .i64 p.H, .slice p.A p.m p.c]
def pgCells (ps : List Pg) : List Value := ps.flatMap Pg.cells
theorem pgCells_at {ps : List Pg} {i : Nat} {p : Pg} (h : ps[i]? = some p) (j : Nat) (hj : j < 3) : (pgCells ps)[i * 3 + j]? = p.cells[j]? := by
 induction ps generalizing i with
 | nil => simp at h
 | cons x ps ih =>
  unfold pgCells
  rw [List.flatMap_cons]
  rcases i with _ | i
  · simp only [List.getElem?_cons_zero, Option.some.injEq] at h
    subst h
    rw [List.getElem?_append_left (by show 0 * 3 + j < 3; omega)]
    simp
  · rw [List.getElem?_append_right (by show 3 ≤ (i + 1) * 3 + j; omega)]
    have e : (i + 1) * 3 + j - x.cells.length = i * 3 + j := by
     show (i + 1) * 3 + j - 3 = i * 3 + j
     omega
    rw [e]
    exact ih (by simpa using h)
/-- The pages lie there. -/
def PgsAt (w : World) (S : Option Addr) (ps : List Pg) : Prop := Reads w 3 S ps.length (pgCells ps) ∧ ∀ p ∈ ps, Reads w 1 p.A p.m (p.bs.map .bool)
theorem PgsAt.bl {w w' : World} {S : Option Addr} {ps : List Pg} (h : PgsAt w S ps) (hb : Bl w w') : PgsAt w' S ps := ⟨h.1.bl hb, fun p hp => (h.2 p hp).bl hb⟩
theorem PgsAt.at_ {w : World} {S : Option Addr} {ps : List Pg} {i : Nat} {p : Pg} (h : PgsAt w S ps) (hi : ps[i]? = some p) : ∃ ad, S = some ad ∧ w.cell? (ad.add (i * 3)) = some (.int .i64 p.W) ∧ w.cell? ⟨(ad.add (i * 3)).block, (ad.add (i * 3)).off + 1, none⟩ = some (.int .i64 p.H) ∧
 w.cell? ⟨(ad.add (i * 3)).block, (ad.add (i * 3)).off + 2, none⟩ = some (.slice p.A p.m p.c) := by
 have hlt : i < ps.length := (List.getElem?_eq_some_iff.1 hi).1
 obtain ⟨ad, e, hc⟩ := h.1.2 (by omega)
 have key : ∀ j v, j < 3 → p.cells[j]? = some v → w.cell? ((ad.add (i * 3)).add j) = some v := fun j v hj hv => by
  rw [add_of_add]
  exact hc _ _ (by rw [pgCells_at hi j hj]; exact hv)
 have k0 := key 0 _ (by omega) rfl
 have k1 := key 1 _ (by omega) rfl
 have k2 := key 2 _ (by omega) rfl
 rw [Addr.add_zero'] at k0
 rw [Addr.add_succ'] at k1 k2
 exact ⟨ad, e, k0, k1, k2⟩

/-! ### what is wrong with the samples -/
/-! ### the vote -/
end Go.Proofs.YthobmednnocklaaGreatDoor


/-! Fonts of the same letters (but for where their pixels lie, and what a bad page holds) have the same error. -/
namespace Go.Proofs.YthobmednnocklaaGreatDoor
open Go.RowKit

/-- All that an error is told by. -/
def Ltr.key (l : Ltr) : List UInt8 × Int × Int × Int × Nat × List Bool := (l.text, pageErr l.W l.H l.m, if pageErr l.W l.H l.m = 0 then (l.W, l.H, l.m, l.bs) else (0, 0, 0, []))
end Go.Proofs.YthobmednnocklaaGreatDoor


/-! strings.Split at a space: the words of a text, in new memory. -/
namespace Go.Proofs
open Go.Shelf
def Tryz.laysSplitW_ren : Go.Shelf.Ren := ⟨fun | 146 => 139 | 221 => 224 | 268 => 296 | 138 => 297 | 143 => 196 | 195 => 335 | 197 => 290 | 218 => 336 | 219 => 279 | 260 => 328 | 217 => 286 | 225 => 319 | 224 => 320 | 267 => 321 | 266 => 325 | 314 => 352 | n => n, fun | 9 => 9 | 31 => 64 | 3 => 3 | 4 => 4 | 0 => 0 | 105 => 363 | 21 => 21 | 5 => 5 | 46 => 173 | 119 => 385 | 139 => 415 | 138 => 414 | 146 => 387 | 51 => 279 | n => n, fun | 1 => 0 | 3 => 3 | 4 => 4 | n => n⟩
theorem Tryz.laysSplitW : Go.Proofs.Lays.n146 Tryz.prog Tryz.laysSplitW_ren := {
 mixed := by kernel_rfl
 f138 := Tryz.func297.trans (congrArg some (by kernel_rfl))
 f143 := Tryz.func196.trans (congrArg some (by kernel_rfl))
 f146 := Tryz.func139.trans (congrArg some (by kernel_rfl))
 f195 := Tryz.func335.trans (congrArg some (by kernel_rfl))
 f197 := Tryz.func290.trans (congrArg some (by kernel_rfl))
 f217 := Tryz.func286.trans (congrArg some (by kernel_rfl))
 f218 := Tryz.func336.trans (congrArg some (by kernel_rfl))
 f219 := Tryz.func279.trans (congrArg some (by kernel_rfl))
 f221 := Tryz.func224.trans (congrArg some (by kernel_rfl))
 f224 := Tryz.func320.trans (congrArg some (by kernel_rfl))
 f225 := Tryz.func319.trans (congrArg some (by kernel_rfl))
 f260 := Tryz.func328.trans (congrArg some (by kernel_rfl))
 f266 := Tryz.func325.trans (congrArg some (by kernel_rfl))
 f267 := Tryz.func321.trans (congrArg some (by kernel_rfl))
 f268 := Tryz.func296.trans (congrArg some (by kernel_rfl))
 f314 := Tryz.func352.trans (congrArg some (by kernel_rfl))
 t0 := Tryz.underlying0
 a0 := Tryz.isAgg0
 z0 := Tryz.sizeOf0
 v0 := Tryz.zeroValue0
 t3 := Tryz.underlying3
 a3 := Tryz.isAgg3
 z3 := Tryz.sizeOf3
 v3 := Tryz.zeroValue3
 t4 := Tryz.underlying4
 a4 := Tryz.isAgg4
 z4 := Tryz.sizeOf4
 v4 := Tryz.zeroValue4
 t5 := Tryz.underlying5
 a5 := Tryz.isAgg5
 z5 := Tryz.sizeOf5
 v5 := Tryz.zeroValue5
 t9 := Tryz.underlying9
 a9 := Tryz.isAgg9
 z9 := Tryz.sizeOf9
 v9 := Tryz.zeroValue9
 t21 := Tryz.underlying21
 a21 := Tryz.isAgg21
 z21 := Tryz.sizeOf21
 v21 := Tryz.zeroValue21
 t31 := Tryz.underlying64
 a31 := Tryz.isAgg64
 z31 := Tryz.sizeOf64
 v31 := Tryz.zeroValue64
 t46 := Tryz.underlying173
 a46 := Tryz.isAgg173
 z46 := Tryz.sizeOf173
 v46 := Tryz.zeroValue173
 t51 := Tryz.underlying279
 a51 := Tryz.isAgg279
 z51 := Tryz.sizeOf279
 v51 := Tryz.zeroValue279
 t105 := Tryz.underlying363
 a105 := Tryz.isAgg363
 z105 := Tryz.sizeOf363
 v105 := Tryz.zeroValue363
 t119 := Tryz.underlying385
 a119 := Tryz.isAgg385
 z119 := Tryz.sizeOf385
 t138 := Tryz.underlying414
 a138 := Tryz.isAgg414
 z138 := Tryz.sizeOf414
 v138 := Tryz.zeroValue414
 t139 := Tryz.underlying415
 a139 := Tryz.isAgg415
 z139 := Tryz.sizeOf415
 v139 := Tryz.zeroValue415
 t146 := Tryz.underlying387
 a146 := Tryz.isAgg387
 z146 := Tryz.sizeOf387
 v146 := Tryz.zeroValue387
 g1 := by kernel_rfl
 g3 := by kernel_rfl
 g4 := by kernel_rfl }

end Go.Proofs
namespace Go.Proofs.YthobmednnocklaaGreatDoor
open Go.RowKit Go.Shelf

/-- The library's variable that strings.Split reads holds some int. -/
def SplitOk (w : World) : Prop := ∃ m : Int, w.cell? ⟨Tryz.laysSplitW_ren.g 1, 0, none⟩ = some (.int .i64 m)
theorem SplitOk.bl {w w' : World} (h : SplitOk w) (hb : Bl w w') : SplitOk w' := let ⟨m, hm⟩ := h; ⟨m, hb.at hm⟩
theorem splitS_any (t : List UInt8) (w : World) (hs : t.length < 4294967281) (hC : SplitOk w) :
 Calls Tryz.prog 139 #[.string ⟨t.toArray⟩, .string ⟨#[32]⟩] w fun e w' => ∃ c, e = .returned (.slice (some ⟨w.heap.size, 0, none⟩) (wordsOf t).length c) ∧ Reads w' 1 (some ⟨w.heap.size, 0, none⟩) (wordsOf t).length (strCells' (wordsOf t)) ∧ Bl w w' := by
 obtain ⟨m, hm⟩ := hC
 have hd := Lib.splitB_data ⟨#[32]⟩ 0 (Lib.countB ⟨t.toArray⟩ ⟨#[32]⟩) ⟨t.toArray⟩
 have hl := Lib.splitB_all ⟨#[32]⟩ (by decide) 0 _ ⟨t.toArray⟩ rfl
 have hw : (Lib.splitB ⟨#[32]⟩ 0 (Lib.countB ⟨t.toArray⟩ ⟨#[32]⟩) ⟨t.toArray⟩).map (·.data.toList) = wordsOf t := hd
 have hlen : (wordsOf t).length = Lib.countB ⟨t.toArray⟩ ⟨#[32]⟩ + 1 := by rw [← hw, List.length_map, hl]
 have hc : (Lib.splitB ⟨#[32]⟩ 0 (Lib.countB ⟨t.toArray⟩ ⟨#[32]⟩) ⟨t.toArray⟩).map Value.string = strCells' (wordsOf t) := by
  rw [← hw]
  unfold strCells'
  rw [List.map_map]
  refine List.map_congr_left fun x _ => ?_
  show Value.string x = Value.string ⟨x.data.toList.toArray⟩
  cases x
  simp
 have h := Any.strings_Split Tryz.laysSplitW info_str ⟨t.toArray⟩ ⟨#[32]⟩ m w (by rw [Lib.size_mk]; exact hs) hm (by decide)
 refine Calls.mono (R := fun e w' => e = .returned (.slice (some ⟨w.heap.size, 0, none⟩) (Lib.countB ⟨t.toArray⟩ ⟨#[32]⟩ + 1) (Lib.countB ⟨t.toArray⟩ ⟨#[32]⟩ + 1)) ∧ w' = w.alloc (.cells ((Lib.splitB ⟨#[32]⟩ 0 (Lib.countB ⟨t.toArray⟩ ⟨#[32]⟩) ⟨t.toArray⟩).map Value.string).toArray 9)) h ?_
 rintro e w' ⟨rfl, rfl⟩
 refine ⟨_, by rw [hlen], ?_, (Bl.refl _).alloc _⟩
 rw [hc]
 have hb := Blk.new w 9 (strCells' (wordsOf t)).toArray
 have hr := hb.reads (wordsOf t).length 1 (by simp [strCells'])
 simpa using hr
end Go.Proofs.YthobmednnocklaaGreatDoor


/-! A font whose error is 0 is right; Width and Set of any font. -/
namespace Go.Proofs.YthobmednnocklaaGreatDoor
open Go.RowKit Go.Shelf

theorem right_of {nm : Bool} {ht gap sp : Int} {ls : List Ltr} (h : fontErr nm ht gap sp ls = 0) : ∃ ht' gap' sp' : Nat, ht = (ht' : Int) ∧ gap = (gap' : Int) ∧ sp = (sp' : Int) ∧ Right ht' gap' sp' ls := by
 obtain ⟨⟨-, hrg, hgs, hl0, hl2, h1, h2⟩, hl⟩ := fontErr_zero h
 have hrg2 : 1 ≤ gap ∧ gap ≤ 16 ∧ 1 ≤ sp ∧ sp ≤ 64 := by
  unfold rangeB at hrg
  simp only [Bool.and_eq_true] at hrg
  have h1 := inB_true.1 hrg.2.1
  have h2 := inB_true.1 hrg.2.2
  exact ⟨h1.1, h1.2, h2.1, h2.2⟩
 obtain ⟨ht', rfl⟩ : ∃ n : Nat, ht = (n : Int) := ⟨ht.toNat, by omega⟩
 obtain ⟨gap', rfl⟩ : ∃ n : Nat, gap = (n : Int) := ⟨gap.toNat, by omega⟩
 obtain ⟨sp', rfl⟩ : ∃ n : Nat, sp = (n : Int) := ⟨sp.toNat, by omega⟩
 have key : ∀ k (hk : k < ls.length), (ls[k]'hk).W = (wdOf ls k : Int) ∧ 1 ≤ wdOf ls k ∧ wdOf ls k ≤ 64 ∧ (ls[k]'hk).H = (ht' : Int) ∧ (ls[k]'hk).m = wdOf ls k * ht' ∧ textB (ls[k]'hk).text = true := fun k hk => by
  obtain ⟨a1, a2, a3, a4⟩ := hl _ (List.getElem_mem hk)
  obtain ⟨W, H, e1, e2, e3, -, -, -⟩ := page_nat a2
  have hsz := sizeErr_zero (pageErr_zero a2).1
  have hw : wdOf ls k = W := by rw [wdOf_at (List.getElem?_eq_getElem hk), e1]; rfl
  have hh : H = ht' := by rw [e2] at a3; omega
  rw [hw]
  refine ⟨e1, by omega, by omega, a3, by rw [e3, hh], a1⟩
 refine ⟨ht', gap', sp', rfl, rfl, rfl, ⟨?_, by omega, by omega, by omega, by omega, by omega, fun k hk => ⟨(key k hk).1, (key k hk).2.1, (key k hk).2.2.1⟩, fun k hk => (key k hk).2.2.2.1, fun k hk => (key k hk).2.2.2.2.1⟩⟩
 intro k hk
 have ht := (key k hk).2.2.2.2.2
 rw [txtOf_at (List.getElem?_eq_getElem hk)]
 unfold textB at ht
 simp only [Bool.and_eq_true, decide_eq_true_eq] at ht
 refine ⟨ht.2.1, ht.2.2, fun b hb e => ?_⟩
 have := ht.1 b hb
 rw [e] at this
 exact absurd this.1 (by decide)
theorem some_at {w : World} {L : Option Addr} {ls : List Ltr} (h : LtrsAt w L ls) (hn : 1 ≤ ls.length) : ∃ adl, L = some adl := by
 obtain ⟨ad, e, -⟩ := h.1.2 (by omega)
 exact ⟨ad, e⟩
/-- What is wrong with a text that a font is to set. -/
def fsetErr (fe : Int) (ls : List Ltr) (ht gap sp : Int) (t : List UInt8) : Int := if fe = 0 then setErr ls ht.toNat gap.toNat sp.toNat t else fe
end Go.Proofs.YthobmednnocklaaGreatDoor


/-! From a statement's row to a walk where a listed variable's reading and the world's shape are both wanted. -/
namespace Go.Proofs.YthobmednnocklaaGreatDoor
open Go.ChangeShapes Go.WideShapes Go.ChangeAt Go.RowKit Go.Joins Go.Shelf

section
variable {H : Type} {enc : TypeId × Value → H}
end
theorem string_mk (s : ByteArray) : ∃ l : List UInt8, s = ⟨l.toArray⟩ := ⟨s.data.toList, by cases s; simp⟩

end Go.Proofs.YthobmednnocklaaGreatDoor


/-! strings.Trim at a set of signs; whether a text is of certain signs; bar.CheckDigit of 12 digits; bedlaw2.bars. -/
namespace Go.Proofs.YthobmednnocklaaGreatDoor
open Go.RowKit Go.Shelf

theorem trim_any (l cs : List UInt8) (w : World) (hl : l.length ≤ 9223372036854775807) (hcs : cs.length ≤ 100) (ha : ∀ (j : Nat) b, cs[j]? = some b → b.toNat < 128) :
 Calls Tryz.prog 130 #[.string ⟨l.toArray⟩, .string ⟨cs.toArray⟩] w fun e w' => e = .returned (.string ⟨(Lib.trimS l cs).toArray⟩) ∧ Bl w w' := by
 have h := Any.strings_Trim_laid Tryz.lays160 (by kernel_rfl) ⟨l.toArray⟩ ⟨cs.toArray⟩ w (by rw [Lib.size_mk]; exact hl) (by rw [Lib.size_mk]; omega) ha
 refine Calls.mono (R := fun e w' => e = .returned (.string ⟨(Lib.trimS l cs).toArray⟩) ∧ Below w.heap.size w w') h ?_
 rintro e w' ⟨rfl, hb⟩
 exact ⟨rfl, hb⟩
/-- All signs of a text are of a set. -/
def madeOf (l cs : List UInt8) : Bool := l.all fun b => cs.contains b
theorem trim_made (l cs : List UInt8) : (Lib.trimS l cs).isEmpty = madeOf l cs := by
 rw [Bool.eq_iff_iff, List.isEmpty_iff, trimS_nil_iff]
 unfold madeOf
 rw [List.all_eq_true]
def digits10 : List UInt8 := [48, 49, 50, 51, 52, 53, 54, 55, 56, 57]
theorem digits_ascii : ∀ (j : Nat) b, digits10[j]? = some b → b.toNat < 128 := by
 intro j b h
 have hm := List.mem_of_getElem? h
 have : ∀ b ∈ digits10, b.toNat < 128 := by decide
 exact this b hm
/-- So many digits. -/
def digB (l : List UInt8) (n : Nat) : Bool := decide (l.length = n) && madeOf l digits10
set_option maxRecDepth 100000 in
set_option maxHeartbeats 1000000 in
theorem areDigits_any (l : List UInt8) (n : Nat) (w : World) (hl : l.length ≤ 9223372036854775807) (_hn : n ≤ 100) :
 Calls Tryz.prog 217 #[.string ⟨l.toArray⟩, .int .i64 n] w fun e w' => e = .returned (.bool (digB l n)) ∧ Bl w w' := by
 have Ht := Lib.hid (trim_any l digits10 w hl (by decide) digits_ascii)
 have hsz : (⟨l.toArray⟩ : ByteArray).size = l.length := Lib.size_mk l
 go_enter Tryz.func217, Tryz.ntmps217
 by_cases h : l.length = n
 · have hq : ((l.length : Int) == (n : Int)) = true := by simp [h]
   have HD := Lib.hid (show digB l n = (Lib.trimS l digits10).isEmpty by unfold digB; rw [decide_eq_true h, trim_made]; rfl)
   clear h
   go_wp2_with fail
   refine Ht.out.mono ?_
   rintro e w1 ⟨rfl, hb⟩
   go_wp2_with fail
   go_ret
   exact ⟨ret_bool HD.out.symm, hb⟩
 · have hq : ((l.length : Int) == (n : Int)) = false := by rw [beq_eq_false_iff_ne]; omega
   have HD := Lib.hid (show digB l n = false by unfold digB; rw [decide_eq_false h]; rfl)
   clear h
   go_wp2_with fail
   go_ret
   exact ⟨ret_bool HD.out.symm, Bl.refl _⟩
/-- The sum of digits, each second one three times. -/
def digOf (l : List UInt8) (i : Nat) : Nat := (l.getD i 48).toNat - 48
def checkSum (l : List UInt8) : Nat → Nat
 | 0 => 0
 | i + 1 => checkSum l i + digOf l i * (1 + i % 2 * 2)
theorem checkSum_le (l : List UInt8) (h : ∀ i, digOf l i ≤ 9) : ∀ n, checkSum l n ≤ n * 27
 | 0 => Nat.le_refl _
 | n + 1 => by
  have ih := checkSum_le l h n
  have h1 : digOf l n * (1 + n % 2 * 2) ≤ 9 * 3 := Nat.mul_le_mul (h n) (by omega)
  show checkSum l n + digOf l n * (1 + n % 2 * 2) ≤ _
  omega
def checkOf (l : List UInt8) : Nat := (10 - checkSum l 12 % 10) % 10
theorem made_at {l : List UInt8} (h : madeOf l digits10 = true) {i : Nat} {b : UInt8} (hi : l[i]? = some b) : 48 ≤ b.toNat ∧ b.toNat ≤ 57 := by
 unfold madeOf at h
 have h1 := List.all_eq_true.1 h b (List.mem_of_getElem? hi)
 have h2 : ∀ b ∈ digits10, 48 ≤ b.toNat ∧ b.toNat ≤ 57 := by decide
 exact h2 b (by simpa using h1)
theorem digOf_le {l : List UInt8} (h : madeOf l digits10 = true) (i : Nat) : digOf l i ≤ 9 := by
 unfold digOf
 rw [List.getD_eq_getElem?_getD]
 cases hg : l[i]? with
 | none => show (48 : UInt8).toNat - 48 ≤ 9; decide
 | some b =>
  have := made_at h hg
  show b.toNat - 48 ≤ 9
  omega
set_option maxRecDepth 100000 in
set_option maxHeartbeats 2000000 in
theorem checkDigit_any (l : List UInt8) (w : World) (hl : l.length ≤ 9223372036854775807) :
 Calls Tryz.prog 218 #[.string ⟨l.toArray⟩] w fun e w' => e = .returned (.tuple #[.int .i64 (if digB l 12 = true then (checkOf l : Int) else 0), .int .i64 (if digB l 12 = true then 0 else 2)]) ∧ Bl w w' := by
 have Hd := Lib.hid (areDigits_any l 12 w hl (by decide))
 have hsz : (⟨l.toArray⟩ : ByteArray).size = l.length := Lib.size_mk l
 obtain ⟨db, hdb⟩ : ∃ db, db = digB l 12 := ⟨_, rfl⟩
 rw [← hdb] at Hd ⊢
 have HDB := Lib.hid hdb
 clear hdb
 go_enter Tryz.func218, Tryz.ntmps218
 go_wp2_with fail
 refine Hd.out.mono ?_
 rintro e w1 ⟨rfl, hb1⟩
 clear Hd
 cases hdb : db with
 | false =>
  subst hdb
  go_wp2_with fail
  exact bodyPost_ret (v := .tuple #[.int .i64 0, .int .i64 2]) (by simp [results, Tryz.results218, go_sem]) rfl ⟨rfl, hb1⟩
 | true =>
  have hd := HDB.out
  rw [hdb] at hd
  unfold digB at hd
  simp only [Bool.true_eq, Bool.and_eq_true, decide_eq_true_eq] at hd
  obtain ⟨hlen, hmade⟩ := hd
  have HMade := Lib.hid hmade; have HLen := Lib.hid hlen
  have hlenI : (l.length : Int) = 12 := by omega
  subst hdb
  clear hmade hlen
  go_wp2_with fail
  go_loopw [4, 11] (fun u v wr => ∃ i : Nat, i ≤ 12 ∧ v = .int .i64 i ∧ u = .int .i64 (checkSum l i : Int) ∧ Bl w wr) (fun _ v _ => 12 - (RowKit.intOf v).toNat)
  case atStart => exact ⟨0, by omega, rfl, rfl, hb1⟩
  case round =>
   obtain ⟨i, hi, rfl, rfl, hbr⟩ := hrel
   by_cases hlt : i < 12
   · have hg : l[i]? = some l[i] := List.getElem?_eq_getElem (by have := HLen.out; omega)
     obtain ⟨b, hb⟩ : ∃ b, b = l[i]'(by have := HLen.out; omega) := ⟨_, rfl⟩
     rw [← hb] at hg
     obtain ⟨h1, h2⟩ := bytes_at hg
     have hma := made_at HMade.out hg
     have hdg : digOf l i = b.toNat - 48 := by unfold digOf; rw [List.getD_eq_getElem?_getD, hg]; rfl
     have hst : checkSum l (i + 1) = checkSum l i + digOf l i * (1 + i % 2 * 2) := rfl
     have hle := checkSum_le l (digOf_le HMade.out) i
     have hd9 := digOf_le HMade.out i
     obtain ⟨s, hs⟩ : ∃ s, s = checkSum l i := ⟨_, rfl⟩
     obtain ⟨d, hd⟩ : ∃ d, d = digOf l i := ⟨_, rfl⟩
     rw [← hs] at hst hle ⊢
     rw [← hd] at hst hd9 hdg
     have hr2 : i % 2 = 0 ∨ i % 2 = 1 := by omega
     have hdb2 : (b.toNat : Int) - 48 = (d : Int) := by omega
     have hmr : (i : Int) % 2 = ((i % 2 : Nat) : Int) := by omega
     obtain ⟨r, hr⟩ : ∃ r, r = i % 2 := ⟨_, rfl⟩
     rw [← hr] at hst hr2 hmr
     have HSt := Lib.hid hst; have HDb := Lib.hid hdb2
     clear hg hb hs hd hr hst hdg hdb2
     rcases hr2 with rfl | rfl
     · have HF := Lib.hid (show (s : Int) + (d : Int) = ((checkSum l (i + 1) : Nat) : Int) by rw [HSt.out]; omega)
       clear HSt
       go_wp2_with fail
       exact ⟨⟨i + 1, by omega, by go_num, by rw [← HF.out, ← HDb.out], hbr⟩, by simp [RowKit.intOf] <;> omega⟩
     · have HF := Lib.hid (show (s : Int) + (d : Int) * 3 = ((checkSum l (i + 1) : Nat) : Int) by rw [HSt.out]; omega)
       clear HSt
       go_wp2_with fail
       exact ⟨⟨i + 1, by omega, by go_num, by rw [← HF.out, ← HDb.out], hbr⟩, by simp [RowKit.intOf] <;> omega⟩
   · obtain rfl : i = 12 := by omega
     go_wp2_with fail
     have he : -((checkSum l 12 : Int) % 10) % 10 = (checkOf l : Int) := by unfold checkOf; omega
     refine bodyPost_ret (v := .tuple #[.int .i64 (checkOf l), .int .i64 0]) (by simp [results, Tryz.results218, go_sem]; exact he) rfl ⟨rfl, hbr⟩

end Go.Proofs.YthobmednnocklaaGreatDoor


/-! bar.Draw. -/
namespace Go.Proofs.YthobmednnocklaaGreatDoor
open Go.RowKit Go.Shelf

def bits01 : List UInt8 := [48, 49]
theorem bits01_ascii : ∀ (j : Nat) b, bits01[j]? = some b → b.toNat < 128 := by
 intro j b h
 have hm := List.mem_of_getElem? h
 have : ∀ b ∈ bits01, b.toNat < 128 := by decide
 exact this b hm
def drawRange (u h q : Int) : Bool := inB u 1 8 && inB h 1 4000 && inB q 0 200
def drawErr (m : List UInt8) (u h q : Int) : Int := if m = [] then 9 else if madeOf m bits01 = false then 2 else if drawRange u h q = false then 3 else sizeErr (2 * q + u * m.length) h
/-- A module's ink. -/
def drawF (m : List UInt8) (u q x _y : Nat) : Bool := decide (q ≤ x ∧ x - q < m.length * u) && ((m.getD ((x - q) / u) 0).toNat == 49)
def drawTo (m : List UInt8) (u q W i k : Nat) : Bool := decide (k < i) && drawF m u q (k % W) (k / W)
theorem drawTo_no {m : List UInt8} {u q W i : Nat} (h : drawF m u q (i % W) (i / W) = false) (k : Nat) : drawTo m u q W (i + 1) k = drawTo m u q W i k := by
 unfold drawTo
 by_cases e : k = i
 · rw [e, h]; simp
 · congr 1
   rw [decide_eq_decide]
   omega
theorem drawTo_set {m : List UInt8} {u q W i : Nat} (k : Nat) : drawTo m u q W (i + 1) k = if k = i then drawF m u q (i % W) (i / W) else drawTo m u q W i k := by
 unfold drawTo
 by_cases e : k = i
 · rw [if_pos e, e, decide_eq_true (Nat.lt_succ_self i)]; rfl
 · rw [if_neg e]
   congr 1
   rw [decide_eq_decide]
   omega
theorem draw_size {n : Nat} {u q h : Int} (hu : 1 ≤ u) (hu8 : u ≤ 8) (hq : 0 ≤ q) : sizeErr (min (n : Int) 4001 * u + 2 * q) h = sizeErr (2 * q + u * n) h := by
 by_cases hn : (n : Int) ≤ 4001
 · rw [show min (n : Int) 4001 = (n : Int) by omega, Int.mul_comm (n : Int) u, Int.add_comm]
 · rw [show min (n : Int) 4001 = 4001 by omega]
   have h1 : u * 4001 ≤ u * (n : Int) := Int.mul_le_mul_of_nonneg_left (by omega) (by omega)
   have h2 : ¬ (4001 * u + 2 * q ≤ 4000) := by omega
   have h3 : ¬ (2 * q + u * (n : Int) ≤ 4000) := by omega
   unfold sizeErr
   rw [if_neg (fun h => h2 h.2.1), if_neg (fun h => h3 h.2.1)]
def DrawRes (m : List UInt8) (u h q : Int) (w : World) (e : Ending) (w' : World) : Prop := ∃ a b R n d err, e = .returned (.tuple #[.agg #[.int .i64 a, .int .i64 b, .slice R n d], .int .i64 err]) ∧ err = drawErr m u h q ∧
 Res w.heap.size w' err (2 * q + u * m.length).toNat h.toNat ((grid (2 * q + u * m.length).toNat h.toNat (drawF m u.toNat q.toNat)).map .bool) a b R n d ∧ Bl w w'
theorem draw_bad {m : List UInt8} {u h q : Int} {w w' : World} {err : Int} (he : drawErr m u h q = err) (hz : err ≠ 0) (hb : Bl w w') : DrawRes m u h q w (.returned (.tuple #[.agg #[.int .i64 0, .int .i64 0, .slice none 0 0], .int .i64 err])) w' :=
 ⟨0, 0, none, 0, 0, err, rfl, he.symm, Res.zero _ _ _ _ _ hz, hb⟩

set_option maxRecDepth 100000 in
set_option maxHeartbeats 8000000 in
theorem draw_any (m : List UInt8) (u h q : Int) (w : World) (hm : m.length ≤ 1048576) :
 Calls Tryz.prog 132 #[.string ⟨m.toArray⟩, .int .i64 u, .int .i64 h, .int .i64 q] w (DrawRes m u h q w) := by
 let w2 := (w).alloc (.cells #[.int .i64 0, .int .i64 0, .slice none 0 0] 24)
 have w2b : Bl w w2 := (Bl.refl w).alloc _
 have w21 : Blk w2 (w.heap.size) 24 #[.int .i64 0, .int .i64 0, .slice none 0 0] := by
  have h0 := Blk.new (w) 24 #[.int .i64 0, .int .i64 0, .slice none 0 0]
  exact h0
 have lw2 : w2.heap.size = w.heap.size + 1 := by simp [w2]
 have hsz : (⟨m.toArray⟩ : ByteArray).size = m.length := Lib.size_mk m
 have Ht := Lib.hid (trim_any m bits01 w2 (by omega) (by decide) bits01_ascii)
 go_enter Tryz.func132, Tryz.ntmps132
 by_cases hnil : m = []
 · have HE := Lib.hid (show drawErr m u h q = 9 by unfold drawErr; rw [if_pos hnil])
   have hemp : m.isEmpty = true := by rw [hnil]; rfl
   have kz := w21.all3
   clear hnil
   go_wp2_with fail
   try simp only [Exit.inBlock, Exit.then]
   refine bodyPost_ret (v := .tuple #[.agg #[.int .i64 0, .int .i64 0, .slice none 0 0], .int .i64 9]) (by simp [results, Tryz.results132, go_sem]) rfl (draw_bad HE.out (by decide) ?_)
   exact w2b
 · have hemp : m.isEmpty = false := by cases m with | nil => exact absurd rfl hnil | cons a t => rfl
   have HNil := Lib.hid hnil
   clear hnil
   go_wp2_with fail
   refine Ht.out.mono ?_
   rintro e w3 ⟨rfl, hb3'⟩
   have hb3 : Bl w2 w3 := hb3'
   clear hb3'
   clear_value w2
   cases hmd : madeOf m bits01 with
   | false =>
    have HE := Lib.hid (show drawErr m u h q = 2 by unfold drawErr; rw [if_neg HNil.out, if_pos hmd])
    have htr : (Lib.trimS m bits01).isEmpty = false := by rw [trim_made, hmd]
    have kz := (w21.bl hb3).all3
    clear hmd
    go_wp2_with fail
    try simp only [Exit.inBlock, Exit.then]
    refine bodyPost_ret (v := .tuple #[.agg #[.int .i64 0, .int .i64 0, .slice none 0 0], .int .i64 2]) (by simp [results, Tryz.results132, go_sem, kz]) rfl (draw_bad HE.out (by decide) ?_)
    exact (((w2b.trans hb3).setCell (by simp) _).setCell (by simp) _).setCell (by simp) _
   | true =>
    have htr : (Lib.trimS m bits01).isEmpty = true := by rw [trim_made, hmd]
    have HMd := Lib.hid hmd
    clear hmd
    go_upto_region 5 with fail
    go_cut [23] from 24 to 45 (fun s23 wc => s23 = .bool (!drawRange u h q) ∧ wc = w3)
    case first =>
     have hr : drawRange u h q = decide (1 ≤ u ∧ u ≤ 8 ∧ 1 ≤ h ∧ h ≤ 4000 ∧ 0 ≤ q ∧ q ≤ 200) := by
      unfold drawRange
      rw [Bool.eq_iff_iff, Bool.and_eq_true, Bool.and_eq_true, inB_true, inB_true, inB_true, decide_eq_true_eq]
      constructor <;> (intro h; omega)
     have HRg := Lib.hid hr
     clear hr
     by_cases d1 : u < 1
     · have HV := Lib.hid (show (!drawRange u h q) = true by rw [HRg.out, decide_eq_false (by omega)]; rfl)
       go_wp2_with fail
       go_meet
       case rel => exact ⟨by rw [HV.out], rfl⟩
     · by_cases d2 : 8 < u
       · have HV := Lib.hid (show (!drawRange u h q) = true by rw [HRg.out, decide_eq_false (by omega)]; rfl)
         go_wp2_with fail
         go_meet
         case rel => exact ⟨by rw [HV.out], rfl⟩
       · by_cases d3 : h < 1
         · have HV := Lib.hid (show (!drawRange u h q) = true by rw [HRg.out, decide_eq_false (by omega)]; rfl)
           go_wp2_with fail
           go_meet
           case rel => exact ⟨by rw [HV.out], rfl⟩
         · by_cases d4 : 4000 < h
           · have HV := Lib.hid (show (!drawRange u h q) = true by rw [HRg.out, decide_eq_false (by omega)]; rfl)
             go_wp2_with fail
             go_meet
             case rel => exact ⟨by rw [HV.out], rfl⟩
           · by_cases d5 : q < 0
             · have HV := Lib.hid (show (!drawRange u h q) = true by rw [HRg.out, decide_eq_false (by omega)]; rfl)
               go_wp2_with fail
               go_meet
               case rel => exact ⟨by rw [HV.out], rfl⟩
             · have HV := Lib.hid (show (!drawRange u h q) = decide (200 < q) by
                rw [HRg.out, Bool.eq_iff_iff]
                simp
                omega)
               go_wp2_with fail
               go_meet
               case rel => exact ⟨by rw [HV.out], rfl⟩
    case rest =>
     obtain ⟨rfl, rfl⟩ := hcut
     rename World => w3
     cases hrg : drawRange u h q with
     | false =>
      have HE := Lib.hid (show drawErr m u h q = 3 by unfold drawErr; rw [if_neg HNil.out, if_neg (by rw [HMd.out]; decide), if_pos hrg])
      have kz := (w21.bl hb3).all3
      clear hrg
      go_wp2_with fail
      try simp only [Exit.inBlock, Exit.then]
      refine bodyPost_ret (v := .tuple #[.agg #[.int .i64 0, .int .i64 0, .slice none 0 0], .int .i64 3]) (by simp [results, Tryz.results132, go_sem, kz]) rfl (draw_bad HE.out (by decide) ?_)
      exact (((w2b.trans hb3).setCell (by simp) _).setCell (by simp) _).setCell (by simp) _
     | true =>
      have hr2 := hrg
      unfold drawRange at hr2
      simp only [Bool.and_eq_true] at hr2
      have g1 := inB_true.1 hr2.1.1
      have g2 := inB_true.1 hr2.1.2
      have g3 := inB_true.1 hr2.2
      obtain ⟨U, hU⟩ : ∃ n : Nat, u = (n : Int) := ⟨u.toNat, by omega⟩
      obtain ⟨H, hH⟩ : ∃ n : Nat, h = (n : Int) := ⟨h.toNat, by omega⟩
      obtain ⟨Q, hQ⟩ : ∃ n : Nat, q = (n : Int) := ⟨q.toNat, by omega⟩
      subst hU hH hQ
      have HE := Lib.hid (show drawErr m U H Q = sizeErr (min (m.length : Int) 4001 * (U : Int) + 2 * (Q : Int)) (H : Int) by unfold drawErr; rw [if_neg HNil.out, if_neg (by rw [HMd.out]; decide), if_neg (by rw [hrg]; decide), draw_size g1.1 g1.2 g3.1])
      obtain ⟨N, hN⟩ : ∃ N, N = min m.length 4001 := ⟨_, rfl⟩
      have hNI : min (m.length : Int) 4001 = (N : Int) := by omega
      obtain ⟨M1, hM1⟩ : ∃ M, M = N * U := ⟨_, rfl⟩
      have hc1 : (N : Int) * (U : Int) = (M1 : Int) := by rw [hM1, Int.natCast_mul]
      have hm1 : M1 ≤ 4001 * 8 := by rw [hM1]; exact Nat.mul_le_mul (by omega) (by omega)
      obtain ⟨V, hV⟩ : ∃ V, V = M1 + 2 * Q := ⟨_, rfl⟩
      have hVI : (M1 : Int) + 2 * (Q : Int) = (V : Int) := by omega
      rw [hNI, hc1, hVI] at HE
      have HVI := Lib.hid hVI
      clear hrg hr2 hVI
      by_cases hse : sizeErr (V : Int) (H : Int) = 0
      case neg =>
       have hq2 : (sizeErr (V : Int) (H : Int) != 0) = true := by simp [hse]
       have Hb := Lib.hid (blank_bad (V : Int) (H : Int) w3 hse)
       have HZ := Lib.hid hse
       clear hse hN hM1 hV
       go_wp2_with fail
       rw [HVI.out]
       refine Hb.out.mono ?_
       rintro e w6 ⟨rfl, hb6⟩
       go_upto_region 8 with fail
       obtain ⟨w7, hw7⟩ : ∃ x, x = w6.alloc (.cells #[.int .i64 0, .int .i64 0, .slice none 0 0] 24) := ⟨_, rfl⟩
       have hb67 : Bl w6 w7 := by rw [hw7]; exact (Bl.refl _).alloc _
       rw [← hw7]
       clear hw7
       have hb7 := hb3.trans (hb6.trans hb67)
       have kz := (w21.bl hb7).all3
       go_wp2_with fail
       refine bodyPost_ret (v := .tuple #[.agg #[.int .i64 0, .int .i64 0, .slice none 0 0], .int .i64 (sizeErr (V : Int) (H : Int))]) (by simp [results, Tryz.results132, go_sem, kz]) rfl (draw_bad HE.out HZ.out ?_)
       exact (((w2b.trans hb7).setCell (by simp) _).setCell (by simp) _).setCell (by simp) _
      case pos =>
       have hz1 := sizeErr_zero hse
       have hml : m.length ≤ 4000 := by
        rcases Nat.lt_or_ge 4000 m.length with h | h
        · have : 4001 * 1 ≤ N * U := Nat.mul_le_mul (by omega) (by omega)
          omega
        · exact h
       have hNm : N = m.length := by omega
       subst hNm
       have hWr : 2 * (Q : Int) + (U : Int) * (m.length : Int) = (V : Int) := by
        have : (U : Int) * (m.length : Int) = (M1 : Int) := by rw [Int.mul_comm]; exact hc1
        omega
       have HWr := Lib.hid hWr
       have hVH : V * H ≤ 1048576 := by
        have h2 : ((V * H : Nat) : Int) = (V : Int) * (H : Int) := by simp
        omega
       have hV4 : 1 ≤ V ∧ V ≤ 4000 := by omega
       have hH4 : 1 ≤ H ∧ H ≤ 4000 := by omega
       have hU1 : 1 ≤ U ∧ U ≤ 8 := by omega
       have hQ1 : Q ≤ 200 := by omega
       have Hb := Lib.hid (blank_new V H w3 hse)
       have HZ := Lib.hid hse; have HM1 := Lib.hid hM1; have HV := Lib.hid hV
       clear hse hN hM1 hV hz1 hWr g1 g2 g3
       go_wp2_with fail
       rw [HVI.out]
       refine Hb.out.mono ?_
       rintro e w6 ⟨g, rfl, hg3, hbg, hb6⟩
       go_upto_region 8 with fail
       obtain ⟨w7, hw7⟩ : ∃ x, x = w6.alloc (.cells #[.int .i64 V, .int .i64 H, .slice (some ⟨g, 0, none⟩) (V * H) (V * H)] 24) := ⟨_, rfl⟩
       obtain ⟨p, hp⟩ : ∃ x, x = w6.heap.size := ⟨_, rfl⟩
       have bp7 : Blk w7 p 24 #[.int .i64 V, .int .i64 H, .slice (some ⟨g, 0, none⟩) (V * H) (V * H)] := by rw [hw7, hp]; exact Blk.new _ _ _
       have hb67 : Bl w6 w7 := by rw [hw7]; exact (Bl.refl _).alloc _
       have hpg : p ≠ g := by have := hbg.lt; omega
       have hp3 : w3.heap.size ≤ p := by have := hb6.le; omega
       have hle3 := hb3.le
       rw [← hw7, ← hp]
       clear hw7 hp
       have hb37 := hb6.trans hb67
       have bg7 : Blk w7 g 4 (tabB (V * H) (drawTo m U Q V 0)) := by
        have h := hbg.bl hb67
        have e : tabB (V * H) (fun _ => false) = tabB (V * H) (drawTo m U Q V 0) := tabB_congr fun k _ => by unfold drawTo; simp
        rw [e] at h
        exact h
       have HG := Lib.hid bg7; have HBp := Lib.hid bp7
       have k7 := bp7.all3
       clear hbg bg7 bp7 Hb
       go_wp2_with fail
       go_loopw [67] (fun v wr => ∃ i : Nat, i ≤ V * H ∧ v = .int .i64 i ∧ Bl w3 wr ∧ Blk wr p 24 #[.int .i64 V, .int .i64 H, .slice (some ⟨g, 0, none⟩) (V * H) (V * H)] ∧ Hid (Blk wr g 4 (tabB (V * H) (drawTo m U Q V i)))) (fun v _ => V * H - (RowKit.intOf v).toNat)
       case atStart => exact ⟨0, Nat.zero_le _, rfl, hb37, HBp.out, HG⟩
       case round =>
        clear k7
        obtain ⟨i, hi, rfl, hbr, hbp, hbg⟩ := hrel
        have k7 := hbp.all3
        by_cases hlt : i < V * H
        · have hmod : i % V < V := Nat.mod_lt _ (by omega)
          obtain ⟨xi, hxi⟩ : ∃ x, x = i % V := ⟨_, rfl⟩
          have e1 : (i : Int) % (V : Int) = (xi : Int) := by rw [hxi]; simp
          rw [← hxi] at hmod
          have hdF : drawF m U Q (i % V) (i / V) = (decide (Q ≤ xi ∧ xi - Q < m.length * U) && ((m.getD ((xi - Q) / U) 0).toNat == 49)) := by rw [hxi]; rfl
          have HDF := Lib.hid hdF; have HBr := Lib.hid hbr; have HBp := Lib.hid hbp; have hV0 : ¬ (V = 0) := by omega
          have hlenU : (m.length : Int) * (U : Int) = (M1 : Int) := hc1
          have hM2 := HM1.out
          clear hxi hdF hbr hbp
          by_cases hin : Q ≤ xi
          · obtain ⟨z, hz⟩ : ∃ z, z = xi - Q := ⟨_, rfl⟩
            have hzI : (xi : Int) - (Q : Int) = (z : Int) := by omega
            by_cases hin2 : z < M1
            · have hidx : z / U < m.length := Nat.div_lt_of_lt_mul (by rw [Nat.mul_comm]; omega)
              obtain ⟨ix, hix⟩ : ∃ n, n = z / U := ⟨_, rfl⟩
              have e2 : (z : Int) / (U : Int) = (ix : Int) := by rw [hix]; simp
              rw [← hix] at hidx
              obtain ⟨b, hb⟩ : ∃ b, m[ix]? = some b := ⟨_, List.getElem?_eq_getElem hidx⟩
              obtain ⟨h1, h2⟩ := bytes_at hb
              have HVl := Lib.hid (show drawF m U Q (i % V) (i / V) = ((b.toNat : Int) == 49) by
               rw [HDF.out, ← hz, decide_eq_true ⟨hin, by rw [← hM2]; exact hin2⟩, ← hix, List.getD_eq_getElem?_getD, hb]
               rw [Bool.true_and, Bool.eq_iff_iff, beq_iff_eq, beq_iff_eq]
               show b.toNat = 49 ↔ _
               omega)
              have hcell : wr.cell? ⟨g, i, none⟩ = some (.bool (drawTo m U Q V i i)) := hbg.out.tabAtB hlt
              have hfz := hbg.out.frozen
              have hU0 : ¬ (U = 0) := by omega
              clear hix hb hz hM2
              go_upto_region 15 with fail
              refine wp_region_flow [(true, 0), (true, 1), (true, 2), (true, 3), (true, 4), (true, 5), (true, 6), (true, 7), (true, 8), (true, 9), (false, 10)] (fun i => i == 10) (by kernel_rfl) (by kernel_rfl) (by kernel_rfl) (by kernel_rfl) ?_
              iterate 2
               apply Flow.calm2 _ _ rfl rfl
               · intro w' hb' K' hK'
                 obtain ⟨hc', hf'⟩ := hb'.rule
                 go_simp
                 try go_ints
                 exact hK'
               · intro K' hK'
                 simp only [sqA]
                 exact hK'
              iterate 4
               apply Flow.mv _ rfl
               · intro K' hK'
                 simp only [sqA, Act.eval, arr_getD, List.getD_cons_zero, List.getD_cons_succ]
                 exact hK'
              iterate 4
               apply Flow.calm2 _ _ rfl rfl
               · intro w' hb' K' hK'
                 obtain ⟨hc', hf'⟩ := hb'.rule
                 go_simp
                 try go_ints
                 exact hK'
               · intro K' hK'
                 simp only [sqA]
                 exact hK'
              refine Flow.tail _ rfl ?_
              have hg3' : w3.heap.size ≤ (⟨g, i, none⟩ : Addr).block := hg3
              go_wp2_with fail
              exact ⟨⟨i + 1, hlt, by go_num, (HBr.out.drew).setCell hg3' _, (HBp.out.drew).far (by show p ≠ g; exact hpg) _, Lib.hid (hbg.out.drew.tabSetB _ _ (fun j _ => by rw [drawTo_set, HVl.out]))⟩, by simp [RowKit.intOf] <;> omega⟩
            · have HNo := Lib.hid (show drawF m U Q (i % V) (i / V) = false by
               rw [HDF.out, ← hz, decide_eq_false (by rw [← hM2]; omega)]
               rfl)
              have HG2 := Lib.hid (show Blk wr g 4 (tabB (V * H) (drawTo m U Q V (i + 1))) by
               rw [tabB_congr fun k _ => drawTo_no HNo.out k]
               exact hbg.out)
              have hn2 : ¬ ((z : Int) < (M1 : Int)) := by omega
              clear hz hM2 hbg
              go_wp2_with fail
              exact ⟨⟨i + 1, hlt, by go_num, HBr.out, HBp.out, HG2⟩, by simp [RowKit.intOf] <;> omega⟩
          · have hneg : (xi : Int) - (Q : Int) < 0 := by omega
            have HNo := Lib.hid (show drawF m U Q (i % V) (i / V) = false by
             rw [HDF.out, decide_eq_false (fun h => hin h.1)]
             rfl)
            have HG2 := Lib.hid (show Blk wr g 4 (tabB (V * H) (drawTo m U Q V (i + 1))) by
             rw [tabB_congr fun k _ => drawTo_no HNo.out k]
             exact hbg.out)
            clear hM2 hbg
            go_wp2_with fail
            exact ⟨⟨i + 1, hlt, by go_num, HBr.out, HBp.out, HG2⟩, by simp [RowKit.intOf] <;> omega⟩
        · obtain rfl : i = V * H := by omega
          have kz := (w21.bl (hb3.trans hbr)).all3
          have hpz : ¬ (p = w.heap.size) := by omega
          have HBg := hbg
          clear hbg
          go_wp2_with fail
          refine bodyPost_ret (v := .tuple #[.agg #[.int .i64 V, .int .i64 H, .slice (some ⟨g, 0, none⟩) (V * H) (V * H)], .int .i64 0]) (by simp [results, Tryz.results132, go_sem, kz]) rfl ⟨_, _, _, _, _, _, rfl, by rw [HE.out, HZ.out], ?_, ?_⟩
          · rw [HWr.out]
            simp only [Int.toNat_natCast]
            have h := HBg.out.tabReadsB
            have e : (List.range (V * H)).map (drawTo m U Q V (V * H)) = grid V H (drawF m U Q) := by
             unfold grid
             refine List.map_congr_left fun k hk => ?_
             unfold drawTo
             rw [decide_eq_true (List.mem_range.1 hk)]
             rfl
            rw [e] at h
            have hn : ∀ ad, some (⟨g, 0, none⟩ : Addr) = some ad → w.heap.size + 1 ≤ ad.block := fun ad h => by injection h with h; subst h; show w.heap.size + 1 ≤ g; omega
            exact Res.page rfl (((h.store hn (by simp) _).store hn (by simp) _).store hn (by simp) _) (fun ad h => by have := hn ad h; omega)
          · exact (((w2b.trans (hb3.trans hbr)).setCell (by simp) _).setCell (by simp) _).setCell (by simp) _

end Go.Proofs.YthobmednnocklaaGreatDoor


/-! EAN codes in plain lists: the modules of digits, and what is read of modules. -/
namespace Go.Proofs.YthobmednnocklaaGreatDoor

def leftC : List (List UInt8) := [[48, 48, 48, 49, 49, 48, 49], [48, 48, 49, 49, 48, 48, 49], [48, 48, 49, 48, 48, 49, 49], [48, 49, 49, 49, 49, 48, 49], [48, 49, 48, 48, 48, 49, 49], [48, 49, 49, 48, 48, 48, 49], [48, 49, 48, 49, 49, 49, 49], [48, 49, 49, 49, 48, 49, 49], [48, 49, 49, 48, 49, 49, 49], [48, 48, 48, 49, 48, 49, 49]]
def firstC : List (List UInt8) := [[76, 76, 76, 76, 76, 76], [76, 76, 71, 76, 71, 71], [76, 76, 71, 71, 76, 71], [76, 76, 71, 71, 71, 76], [76, 71, 76, 76, 71, 71], [76, 71, 71, 76, 76, 71], [76, 71, 71, 71, 76, 76], [76, 71, 76, 71, 76, 71], [76, 71, 76, 71, 71, 76], [76, 71, 71, 76, 71, 76]]
def exB (l : List UInt8) : List UInt8 := l.map fun b => 97 - b
def codeOf (k : UInt8) (d : Nat) : List UInt8 := if k = 82 then exB (leftC.getD d []) else if k = 71 then (exB (leftC.getD d [])).reverse else leftC.getD d []
def midE : List UInt8 := [48, 49, 48, 49, 48]
def endE : List UInt8 := [49, 48, 49]
def rowE (ds : List UInt8) : List UInt8 := firstC.getD (digOf ds 0) []
def kindE (ds : List UInt8) (i : Nat) : UInt8 := if 7 ≤ i then 82 else (rowE ds).getD (i - 1) 0
def eanPart (ds : List UInt8) : Nat → List UInt8
 | 0 => endE
 | i + 1 => eanPart ds i ++ (if i = 6 then midE else []) ++ codeOf (kindE ds (i + 1)) (digOf ds (i + 1))
def eanOf (ds : List UInt8) : List UInt8 := eanPart ds 12 ++ endE
/-! the reference's search -/
/-! partsE -/
/-! the code's own digits are read -/
theorem codeOf_len : ∀ k : UInt8, ∀ d < 10, (codeOf k d).length = 7 := by
 intro k d hd
 have h1 : ∀ d < 10, (leftC.getD d []).length = 7 := by decide
 unfold codeOf exB
 split
 · rw [List.length_map]; exact h1 d hd
 · split
   · rw [List.length_reverse, List.length_map]; exact h1 d hd
   · exact h1 d hd
end Go.Proofs.YthobmednnocklaaGreatDoor


/-! EAN codes in plain lists: what is drawn of digits is read as these digits, also backwards. -/
namespace Go.Proofs.YthobmednnocklaaGreatDoor

theorem kindE_high (ds : List UInt8) (i : Nat) (hi : 6 ≤ i) : kindE ds (i + 1) = 82 := by
 unfold kindE
 rw [if_pos (by omega)]
/-! a code that is read is of bits -/
end Go.Proofs.YthobmednnocklaaGreatDoor


/-! bedref2.DrawOf. -/
namespace Go.Proofs.YthobmednnocklaaGreatDoor
open Go.RowKit

set_option maxRecDepth 100000 in
set_option maxHeartbeats 1000000 in
theorem drawOf1_any (gq gu gm : Nat) (m : List UInt8) (U Q x y : Nat) (w : World) (bq : Blk w gq 3 #[.int .i64 Q]) (bu : Blk w gu 3 #[.int .i64 U]) (bm : Blk w gm 9 #[.string ⟨m.toArray⟩])
 (hU : 1 ≤ U ∧ U ≤ 8) (hQ : Q ≤ 200) (hm : m.length ≤ 4000) (hx : x ≤ 4000) :
 Calls Tryz.prog 239 #[.int .i64 x, .int .i64 y, .pointer (some ⟨gq, 0, none⟩), .pointer (some ⟨gu, 0, none⟩), .pointer (some ⟨gm, 0, none⟩)] w fun e w' => e = .returned (.bool (drawF m U Q x y)) ∧ Bl w w' := by
 have kq := bq.all1
 have ku := bu.all1
 have km := bm.all1
 have hsz : (⟨m.toArray⟩ : ByteArray).size = m.length := Lib.size_mk m
 obtain ⟨M1, hM1⟩ : ∃ M, M = m.length * U := ⟨_, rfl⟩
 have hm1 : M1 ≤ 4000 * 8 := by rw [hM1]; exact Nat.mul_le_mul hm hU.2
 have hMI : (U : Int) * (m.length : Int) = (M1 : Int) := by rw [hM1, Int.natCast_mul, Int.mul_comm]
 have HDF := Lib.hid (show drawF m U Q x y = (decide (Q ≤ x ∧ x - Q < m.length * U) && ((m.getD ((x - Q) / U) 0).toNat == 49)) from rfl)
 have hU0 : ¬ (U = 0) := by omega
 by_cases hin : Q ≤ x
 · obtain ⟨z, hz⟩ : ∃ z, z = x - Q := ⟨_, rfl⟩
   have hzI : (x : Int) - (Q : Int) = (z : Int) := by omega
   by_cases hin2 : z < M1
   · have hidx : z / U < m.length := Nat.div_lt_of_lt_mul (by rw [Nat.mul_comm, ← hM1]; omega)
     obtain ⟨ix, hix⟩ : ∃ n, n = z / U := ⟨_, rfl⟩
     have e2 : (z : Int) / (U : Int) = (ix : Int) := by rw [hix]; simp
     rw [← hix] at hidx
     obtain ⟨b, hb⟩ : ∃ b, m[ix]? = some b := ⟨_, List.getElem?_eq_getElem hidx⟩
     obtain ⟨h1, h2⟩ := bytes_at hb
     have HVl := Lib.hid (show drawF m U Q x y = ((b.toNat : Int) == 49) by
      rw [HDF.out, ← hz, decide_eq_true ⟨hin, by rw [← hM1]; exact hin2⟩, ← hix, List.getD_eq_getElem?_getD, hb]
      rw [Bool.true_and, Bool.eq_iff_iff, beq_iff_eq, beq_iff_eq]
      show b.toNat = 49 ↔ _
      omega)
     have Hin := Lib.hid (fun wx => by
      have h := in_any (z : Int) 0 ((M1 : Int) - 1) wx
      rw [show inB (z : Int) 0 ((M1 : Int) - 1) = true by unfold inB; rw [decide_eq_true (by omega), decide_eq_true (by omega)]; rfl] at h
      exact h)
     clear hix hb hz hM1
     go_enter Tryz.func239, Tryz.ntmps239
     go_upto_region 2 with fail
     refine wp_region_flow [(true, 0), (true, 1), (true, 2), (true, 3), (true, 4), (true, 5), (false, 6), (true, 7), (true, 8), (true, 9), (true, 10), (true, 11), (true, 12), (true, 13), (true, 14), (true, 15)] (fun _ => false) (by kernel_rfl) (by kernel_rfl) (by kernel_rfl) (by kernel_rfl) ?_
     iterate 1
      apply Flow.mv _ rfl
      · intro K' hK'
        simp only [sqA, Act.eval, arr_getD, List.getD_cons_zero]
        exact hK'
     iterate 5
      apply Flow.calm2 _ _ rfl rfl
      · intro w' hb' K' hK'
        obtain ⟨hc', hf'⟩ := hb'.rule
        go_simp
        try go_ints
        exact hK'
      · intro K' hK'
        simp only [sqA]
        exact hK'
     apply Flow.move rfl
     go_wp2_with fail
     refine (Hin.out _).mono ?_
     rintro e w' ⟨rfl, rfl⟩
     go_wp2_with fail
     refine ⟨fun _ => (by first | exact HB1 | exact Bl.refl _), ?_⟩
     iterate 1
      apply Flow.mv _ rfl
      · intro K' hK'
        simp only [sqA, Act.eval, arr_getD, List.getD_cons_zero, List.getD_cons_succ]
        exact hK'
     iterate 6
      first
       | (apply Flow.pass rfl (by rfl))
       | (apply Flow.calmG _ rfl (by rfl)
          · intro w' hb'
            obtain ⟨hc', hf'⟩ := hb'.rule
            go_simp
            all_goals (try rfl))
      simp only [sqA]
      try go_ints
     iterate 1
      apply Flow.calm2 _ _ rfl rfl
      · intro w' hb' K' hK'
        obtain ⟨hc', hf'⟩ := hb'.rule
        go_simp
        try go_ints
        exact hK'
      · intro K' hK'
        simp only [sqA]
        exact hK'
     iterate 1
      apply Flow.asg _ rfl
      · intro K' hK'
        simp only [sqA, Act.eval, arr_getD, List.getD_cons_zero, List.getD_cons_succ]
        exact hK'
     refine Flow.done ?_
     go_wp2_with fail
     go_ret
     exact ⟨ret_bool HVl.out.symm, (Bl.refl _).drew⟩
   · have HVl := Lib.hid (show drawF m U Q x y = false by
      rw [HDF.out, ← hz, decide_eq_false (by rw [← hM1]; omega)]
      rfl)
     have Hin := Lib.hid (fun wx => by
      have h := in_any (z : Int) 0 ((M1 : Int) - 1) wx
      rw [show inB (z : Int) 0 ((M1 : Int) - 1) = false by unfold inB; rw [decide_eq_false (show ¬ ((z : Int) ≤ (M1 : Int) - 1) by omega), Bool.and_false]] at h
      exact h)
     clear hz hM1
     go_enter Tryz.func239, Tryz.ntmps239
     go_upto_region 2 with fail
     refine wp_region_flow [(true, 0), (true, 1), (true, 2), (true, 3), (true, 4), (true, 5), (false, 6), (true, 7), (true, 8), (true, 9), (true, 10), (true, 11), (true, 12), (true, 13), (true, 14), (true, 15)] (fun _ => false) (by kernel_rfl) (by kernel_rfl) (by kernel_rfl) (by kernel_rfl) ?_
     iterate 1
      apply Flow.mv _ rfl
      · intro K' hK'
        simp only [sqA, Act.eval, arr_getD, List.getD_cons_zero]
        exact hK'
     iterate 5
      apply Flow.calm2 _ _ rfl rfl
      · intro w' hb' K' hK'
        obtain ⟨hc', hf'⟩ := hb'.rule
        go_simp
        try go_ints
        exact hK'
      · intro K' hK'
        simp only [sqA]
        exact hK'
     apply Flow.move rfl
     go_wp2_with fail
     refine (Hin.out _).mono ?_
     rintro e w' ⟨rfl, rfl⟩
     go_wp2_with fail
     refine ⟨fun _ => (by first | exact HB1 | exact Bl.refl _), ?_⟩
     iterate 1
      apply Flow.mv _ rfl
      · intro K' hK'
        simp only [sqA, Act.eval, arr_getD, List.getD_cons_zero, List.getD_cons_succ]
        exact hK'
     iterate 6
      first
       | (apply Flow.pass rfl (by rfl))
       | (apply Flow.calmG _ rfl (by rfl)
          · intro w' hb'
            obtain ⟨hc', hf'⟩ := hb'.rule
            go_simp
            all_goals (try rfl))
      simp only [sqA]
      try go_ints
     iterate 1
      apply Flow.calm2 _ _ rfl rfl
      · intro w' hb' K' hK'
        obtain ⟨hc', hf'⟩ := hb'.rule
        go_simp
        try go_ints
        exact hK'
      · intro K' hK'
        simp only [sqA]
        exact hK'
     iterate 1
      apply Flow.asg _ rfl
      · intro K' hK'
        simp only [sqA, Act.eval, arr_getD, List.getD_cons_zero, List.getD_cons_succ]
        exact hK'
     refine Flow.done ?_
     go_wp2_with fail
     go_ret
     exact ⟨ret_bool HVl.out.symm, (Bl.refl _).drew⟩
 · have HVl := Lib.hid (show drawF m U Q x y = false by
    rw [HDF.out, decide_eq_false (fun h => hin h.1)]
    rfl)
   obtain ⟨z, hzI⟩ : ∃ z : Int, (x : Int) - (Q : Int) = z := ⟨_, rfl⟩
   have hz0 : z < 0 := by omega
   have Hin := Lib.hid (fun wx => by
    have h := in_any z 0 ((M1 : Int) - 1) wx
    rw [show inB z 0 ((M1 : Int) - 1) = false by unfold inB; rw [decide_eq_false (show ¬ ((0 : Int) ≤ z) by omega), Bool.false_and]] at h
    exact h)
   clear hM1
   go_enter Tryz.func239, Tryz.ntmps239
   go_upto_region 2 with fail
   refine wp_region_flow [(true, 0), (true, 1), (true, 2), (true, 3), (true, 4), (true, 5), (false, 6), (true, 7), (true, 8), (true, 9), (true, 10), (true, 11), (true, 12), (true, 13), (true, 14), (true, 15)] (fun _ => false) (by kernel_rfl) (by kernel_rfl) (by kernel_rfl) (by kernel_rfl) ?_
   iterate 1
    apply Flow.mv _ rfl
    · intro K' hK'
      simp only [sqA, Act.eval, arr_getD, List.getD_cons_zero]
      exact hK'
   iterate 5
    apply Flow.calm2 _ _ rfl rfl
    · intro w' hb' K' hK'
      obtain ⟨hc', hf'⟩ := hb'.rule
      go_simp
      try go_ints
      exact hK'
    · intro K' hK'
      simp only [sqA]
      exact hK'
   apply Flow.move rfl
   go_wp2_with fail
   refine (Hin.out _).mono ?_
   rintro e w' ⟨rfl, rfl⟩
   go_wp2_with fail
   refine ⟨fun _ => (by first | exact HB1 | exact Bl.refl _), ?_⟩
   iterate 1
    apply Flow.mv _ rfl
    · intro K' hK'
      simp only [sqA, Act.eval, arr_getD, List.getD_cons_zero, List.getD_cons_succ]
      exact hK'
   iterate 6
    first
     | (apply Flow.pass rfl (by rfl))
     | (apply Flow.calmG _ rfl (by rfl)
        · intro w' hb'
          obtain ⟨hc', hf'⟩ := hb'.rule
          go_simp
          all_goals (try rfl))
    simp only [sqA]
    try go_ints
   iterate 1
    apply Flow.calm2 _ _ rfl rfl
    · intro w' hb' K' hK'
      obtain ⟨hc', hf'⟩ := hb'.rule
      go_simp
      try go_ints
      exact hK'
    · intro K' hK'
      simp only [sqA]
      exact hK'
   iterate 1
    apply Flow.asg _ rfl
    · intro K' hK'
      simp only [sqA, Act.eval, arr_getD, List.getD_cons_zero, List.getD_cons_succ]
      exact hK'
   refine Flow.done ?_
   go_wp2_with fail
   go_ret
   exact ⟨ret_bool HVl.out.symm, (Bl.refl _).drew⟩
set_option maxRecDepth 100000 in
set_option maxHeartbeats 1000000 in
theorem drawOf_any (m : List UInt8) (U H Q V : Nat) (w : World) (hU : 1 ≤ U ∧ U ≤ 8) (hQ : Q ≤ 200) (hm : m.length ≤ 4000) (hV : V = 2 * Q + U * m.length) (hV4 : V ≤ 4000) (hH4 : H ≤ 4000) :
 Calls Tryz.prog 156 #[.string ⟨m.toArray⟩, .int .i64 U, .int .i64 H, .int .i64 Q] w fun e w' => ∃ R rc, e = .returned (.agg #[.int .i64 V, .int .i64 H, .slice R (V * H) rc]) ∧ Reads w' 1 R (V * H) ((grid V H (drawF m U Q)).map .bool) ∧ (∀ ad, R = some ad → w.heap.size + 4 ≤ ad.block) ∧ Bl w w' := by
 let w2 := ((((w).alloc (.cells #[.string ⟨m.toArray⟩] 9)).alloc (.cells #[.int .i64 U] 3)).alloc (.cells #[.int .i64 Q] 3)).alloc (.cells #[.int .i64 0, .int .i64 0, .slice none 0 0] 24)
 have w2b : Bl w w2 := ((((Bl.refl w).alloc _).alloc _).alloc _).alloc _
 have w21 : Blk w2 (w.heap.size) 9 #[.string ⟨m.toArray⟩] := by
  have h0 := Blk.new (w) 9 #[.string ⟨m.toArray⟩]
  exact (((h0.alloc _).alloc _).alloc _)
 have w22 : Blk w2 (w.heap.size + 1) 3 #[.int .i64 U] := by
  have h0 := Blk.new ((w).alloc (.cells #[.string ⟨m.toArray⟩] 9)) 3 #[.int .i64 U]
  simp only [World.size_alloc] at h0
  exact ((h0.alloc _).alloc _)
 have w23 : Blk w2 (w.heap.size + 1 + 1) 3 #[.int .i64 Q] := by
  have h0 := Blk.new (((w).alloc (.cells #[.string ⟨m.toArray⟩] 9)).alloc (.cells #[.int .i64 U] 3)) 3 #[.int .i64 Q]
  simp only [World.size_alloc] at h0
  exact (h0.alloc _)
 have w24 : Blk w2 (w.heap.size + 1 + 1 + 1) 24 #[.int .i64 0, .int .i64 0, .slice none 0 0] := by
  have h0 := Blk.new ((((w).alloc (.cells #[.string ⟨m.toArray⟩] 9)).alloc (.cells #[.int .i64 U] 3)).alloc (.cells #[.int .i64 Q] 3)) 24 #[.int .i64 0, .int .i64 0, .slice none 0 0]
  simp only [World.size_alloc] at h0
  exact h0
 have hsz : (⟨m.toArray⟩ : ByteArray).size = m.length := Lib.size_mk m
 have hbd : V * H ≤ 16000000 := by have := Nat.mul_le_mul hV4 hH4; omega
 have hP : Paints Tryz.prog 239 #[.pointer (some ⟨w.heap.size + 1 + 1, 0, none⟩), .pointer (some ⟨w.heap.size + 1, 0, none⟩), .pointer (some ⟨w.heap.size, 0, none⟩)] Value.bool w2 V H (drawF m U Q) :=
  ⟨enters Tryz.func239 (by kernel_rfl) rfl, fun wy x y hb hx hy => drawOf1_any _ _ _ m U Q x y wy (w23.bl hb) (w22.bl hb) (w21.bl hb) hU hQ hm (by omega)⟩
 have HP := Lib.hid hP
 obtain ⟨M1, hM1⟩ : ∃ M, M = U * m.length := ⟨_, rfl⟩
 have hMI : (U : Int) * (m.length : Int) = (M1 : Int) := by rw [hM1, Int.natCast_mul]
 rw [← hM1] at hV
 have hVI : 2 * (Q : Int) + (M1 : Int) = (V : Int) := by omega
 have HVI := Lib.hid hVI
 have hM1b : M1 ≤ 4000 := by omega
 clear hP hM1 hVI hV
 go_enter Tryz.func156, Tryz.ntmps156
 go_wp2_with fail
 rw [HVI.out]
 refine (Made_any V H _ _ _ _ (by omega) (by omega) (by omega) HP.out).mono ?_
 rintro e w6 ⟨r, rfl, hpg, hb6⟩
 have kr3 := (w24.bl hb6).all3
 have hsz3 := w24.lt
 have hle6 := w2b.trans hb6
 obtain ⟨R, rc, rfl, hR, hRn⟩ := hpg
 have hRn' : ∀ ad, R = some ad → w.heap.size + 4 ≤ ad.block := fun ad h => by have := hRn ad h; simp [w2] at this; omega
 have HR := Lib.hid hR; have HRn := Lib.hid hRn'
 clear hR hRn hRn'
 go_wp2_with fail
 refine bodyPost_ret (v := .agg #[.int .i64 V, .int .i64 H, .slice R (V * H) rc]) (by simp [results, Tryz.results156, go_sem, kr3]) rfl ⟨R, rc, rfl, ?_, HRn.out, ?_⟩
 · exact ((HR.out.store HRn.out (by simp) _).store HRn.out (by simp) _).store HRn.out (by simp) _
 · exact (((hle6.setCell (by simp; omega) _).setCell (by simp; omega) _).setCell (by simp; omega) _)
end Go.Proofs.YthobmednnocklaaGreatDoor
