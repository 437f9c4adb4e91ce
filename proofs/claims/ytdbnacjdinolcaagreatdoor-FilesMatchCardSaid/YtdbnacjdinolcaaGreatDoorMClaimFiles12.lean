/- Rows of bytes: bytes.CutPrefix, bytes.Cut and bytes.Equal in the words of lists of bytes. -/
import Derived.Test.YtdbnacjdinolcaaGreatDoorMClaimFiles11
import Derived.Shelf.Bytes.SlSmallAll
import Derived.Shelf.Bytes.SlCut
import Derived.Shelf.Bytes.SlEqualAll

namespace Go.Proofs
open Go.Shelf
def Tryz.laysBCutPre_ren : Go.Shelf.Ren := ⟨fun | 141 => 101 | 116 => 152 | 115 => 13 | n => n, fun | 37 => 22 | 4 => 4 | 3 => 3 | 9 => 9 | 5 => 5 | n => n, fun | n => n⟩
theorem Tryz.laysBCutPre : Go.Proofs.Lays.nb141 Tryz.prog Tryz.laysBCutPre_ren := {
  mixed := by kernel_rfl
  f115 := Tryz.func13.trans (congrArg some (by kernel_rfl))
  f116 := Tryz.func152.trans (congrArg some (by kernel_rfl))
  f141 := Tryz.func101.trans (congrArg some (by kernel_rfl))
  t3 := Tryz.underlying3
  a3 := Tryz.isAgg3
  z3 := Tryz.sizeOf3
  v3 := Tryz.zeroValue3
  t4 := Tryz.underlying4
  a4 := Tryz.isAgg4
  z4 := Tryz.sizeOf4
  v4 := Tryz.zeroValue4
  t9 := Tryz.underlying9
  a9 := Tryz.isAgg9
  z9 := Tryz.sizeOf9
  v9 := Tryz.zeroValue9
  t37 := Tryz.underlying22
  a37 := Tryz.isAgg22
  z37 := Tryz.sizeOf22
  v37 := Tryz.zeroValue22
  t5 := Tryz.underlying5
  a5 := Tryz.isAgg5
  z5 := Tryz.sizeOf5
  v5 := Tryz.zeroValue5 }

def Tryz.laysBCut_ren : Go.Shelf.Ren := ⟨fun | 4 => 102 | 5 => 153 | 6 => 183 | 7 => 13 | 8 => 184 | 9 => 165 | 10 => 185 | 11 => 203 | 12 => 204 | n => n, fun | 22 => 22 | 4 => 4 | 3 => 3 | 0 => 0 | 5 => 5 | 29 => 91 | 9 => 9 | 31 => 235 | 30 => 234 | n => n, fun | 0 => 0 | n => n⟩
theorem Tryz.laysBCut : Go.Proofs.SlLaysT.n4 Tryz.prog Tryz.laysBCut_ren := {
  mixed := by kernel_rfl
  f4 := Tryz.func102.trans (congrArg some (by kernel_rfl))
  f5 := Tryz.func153.trans (congrArg some (by kernel_rfl))
  f6 := Tryz.func183.trans (congrArg some (by kernel_rfl))
  f7 := Tryz.func13.trans (congrArg some (by kernel_rfl))
  f8 := Tryz.func184.trans (congrArg some (by kernel_rfl))
  f9 := Tryz.func165.trans (congrArg some (by kernel_rfl))
  f10 := Tryz.func185.trans (congrArg some (by kernel_rfl))
  f11 := Tryz.func203.trans (congrArg some (by kernel_rfl))
  f12 := Tryz.func204.trans (congrArg some (by kernel_rfl))
  t0 := Tryz.underlying0
  a0 := Tryz.isAgg0
  z0 := Tryz.sizeOf0
  v0 := Tryz.zeroValue0
  t3 := Tryz.underlying3
  a3 := Tryz.isAgg3
  z3 := Tryz.sizeOf3
  v3 := Tryz.zeroValue3
  t4 := Tryz.underlying4
  a4 := Tryz.isAgg4
  z4 := Tryz.sizeOf4
  v4 := Tryz.zeroValue4
  t5 := Tryz.underlying5
  a5 := Tryz.isAgg5
  z5 := Tryz.sizeOf5
  v5 := Tryz.zeroValue5
  t9 := Tryz.underlying9
  a9 := Tryz.isAgg9
  z9 := Tryz.sizeOf9
  v9 := Tryz.zeroValue9
  t22 := Tryz.underlying22
  a22 := Tryz.isAgg22
  z22 := Tryz.sizeOf22
  v22 := Tryz.zeroValue22
  t29 := Tryz.underlying91
  a29 := Tryz.isAgg91
  z29 := Tryz.sizeOf91
  v29 := Tryz.zeroValue91
  t30 := Tryz.underlying234
  a30 := Tryz.isAgg234
  z30 := Tryz.sizeOf234
  v30 := Tryz.zeroValue234
  t31 := Tryz.underlying235
  a31 := Tryz.isAgg235
  z31 := Tryz.sizeOf235
  v31 := Tryz.zeroValue235
  g0 := by kernel_rfl }

def Tryz.laysBEq_ren : Go.Shelf.Ren := ⟨fun | 115 => 13 | n => n, fun | 37 => 22 | 4 => 4 | 9 => 9 | 5 => 5 | n => n, fun | n => n⟩
theorem Tryz.laysBEq : Go.Proofs.Lays.nb115 Tryz.prog Tryz.laysBEq_ren := {
  mixed := by kernel_rfl
  f115 := Tryz.func13.trans (congrArg some (by kernel_rfl))
  t4 := Tryz.underlying4
  a4 := Tryz.isAgg4
  z4 := Tryz.sizeOf4
  v4 := Tryz.zeroValue4
  t9 := Tryz.underlying9
  a9 := Tryz.isAgg9
  z9 := Tryz.sizeOf9
  v9 := Tryz.zeroValue9
  t37 := Tryz.underlying22
  a37 := Tryz.isAgg22
  z37 := Tryz.sizeOf22
  v37 := Tryz.zeroValue22
  t5 := Tryz.underlying5
  a5 := Tryz.isAgg5
  z5 := Tryz.sizeOf5
  v5 := Tryz.zeroValue5 }

end Go.Proofs
namespace Go.Proofs.YtdbnacjdinolcaaGreatDoor
open Go.RowKit Go.Shelf

/-- A row of bytes, with what its capacity must be. -/
def BRow (w : World) (A : Option Addr) (n c : Nat) (bs : List UInt8) : Prop := Reads w 1 A n (bs.map encB) ∧ n ≤ c ∧ (A = none → c = 0)
theorem BRow.bl {w w' : World} {A : Option Addr} {n c : Nat} {bs : List UInt8} (h : BRow w A n c bs) (hb : Bl w w') : BRow w' A n c bs := ⟨h.1.bl hb, h.2⟩
theorem BRow.len {w : World} {A : Option Addr} {n c : Nat} {bs : List UInt8} (h : BRow w A n c bs) : bs.length = n := by have := h.1.1; simpa using this
def numsOf (bs : List UInt8) : List Int := bs.map fun b => (b.toNat : Int)
theorem nums_len (bs : List UInt8) : (numsOf bs).length = bs.length := by simp [numsOf]
theorem nums_bytes (bs : List UInt8) : Lib.bytesOf (numsOf bs) = bs := by
  unfold Lib.bytesOf numsOf
  rw [List.map_map]
  conv => rhs; rw [← List.map_id bs]
  refine List.map_congr_left fun b _ => ?_
  simp
theorem nums_range (bs : List UInt8) : ∀ x ∈ numsOf bs, 0 ≤ x ∧ x < 256 := by
  intro x hx
  obtain ⟨b, -, rfl⟩ := List.mem_map.1 hx
  have := b.toNat_lt
  omega
theorem bytesIn_of {w : World} {A : Option Addr} {n : Nat} {bs : List UInt8} (h : Reads w 1 A n (bs.map encB)) : Lib.BytesIn w A n (numsOf bs) := by
  have hn : bs.length = n := by have := h.1; simpa using this
  rcases Nat.eq_zero_or_pos n with h0 | h0
  · subst h0; exact Lib.BytesIn.nil _ _ _
  · obtain ⟨ad, rfl, hc⟩ := h.2 h0
    refine Lib.BytesIn.of_cells fun i hi => hc i _ ?_
    rw [List.getElem?_map, List.getElem?_eq_getElem (by omega)]
    simp [numsOf, encB, List.getD, show i < bs.length by omega]
theorem reads_drop {w : World} {ad : Addr} {n j : Nat} {xs : List Value} (h : Reads w 1 (some ad) n xs) (hj : j ≤ n) : Reads w 1 (some (ad.add j)) (n - j) (xs.drop j) := by
  refine ⟨by rw [List.length_drop, h.1]; omega, fun hn => ⟨_, rfl, fun i u hu => ?_⟩⟩
  obtain ⟨ad', e, hc⟩ := h.2 (by omega)
  obtain rfl := Option.some.inj e
  rw [add_of_add]
  rw [List.getElem?_drop] at hu
  exact hc _ _ hu
theorem reads_take {w : World} {A : Option Addr} {n j : Nat} {xs : List Value} (h : Reads w 1 A n xs) (hj : j ≤ n) : Reads w 1 A j (xs.take j) := by
  refine ⟨by rw [List.length_take, h.1]; omega, fun hn => ?_⟩
  obtain ⟨ad, e, hc⟩ := h.2 (by omega)
  refine ⟨ad, e, fun i u hu => hc i u ?_⟩
  have hi : i < j := by
    have := (List.getElem?_eq_some_iff.1 hu).1
    simp at this; omega
  rw [List.getElem?_take_of_lt hi] at hu
  exact hu
theorem brow_from {w : World} {A : Option Addr} {n c j : Nat} {bs : List UInt8} (h : BRow w A n c bs) (hj : j ≤ n) : ∃ A', Lib.fromV A n c j = .slice A' (n - j) (c - j) ∧ BRow w A' (n - j) (c - j) (bs.drop j) := by
  obtain ⟨hr, hc, hz⟩ := h
  refine ⟨_, rfl, ?_, by omega, ?_⟩
  · split
    · rename_i e
      obtain rfl : j = n := by omega
      have hn : bs.length = j := by have := hr.1; simpa using this
      rw [Nat.sub_self, List.drop_eq_nil_of_le (by omega)]
      exact ⟨by simp, fun h => absurd h (by omega)⟩
    · cases A with
      | none =>
        have := hz rfl
        have e0 : n = 0 := by omega
        subst e0
        obtain rfl : j = 0 := by omega
        have hn : bs.length = 0 := by have := hr.1; simpa using this
        rw [List.eq_nil_of_length_eq_zero hn]
        exact ⟨by simp, fun h => absurd h (by omega)⟩
      | some ad =>
        rw [List.map_drop]
        exact reads_drop hr hj
  · split
    · omega
    · cases A with
      | none => intro _; have := hz rfl; omega
      | some ad => intro h; cases h
theorem brow_zero (w : World) : BRow w none 0 0 [] := ⟨Reads.none_, Nat.le_refl _, fun _ => rfl⟩
/-- Bytes put down anew for a call: what a prefix or a separator is. -/
theorem bcutPre_any (A P : Option Addr) (n c m d : Nat) (bs ps : List UInt8) (w : World) (hA : BRow w A n c bs) (hP : Reads w 1 P m (ps.map encB)) :
    Calls Tryz.prog 101 #[.slice A n c, .slice P m d] w fun e w' => ∃ A' n' c', e = .returned (.tuple #[.slice A' n' c', .bool (Lib.hasPrefix bs ps)]) ∧ BRow w A' n' c' (Lib.trimPrefix bs ps) ∧ w' = w := by
  have hn := hA.len
  have hm : ps.length = m := by have := hP.1; simpa using this
  refine (Any.bytes_CutPrefix_all Tryz.laysBCutPre A P n c m d (numsOf bs) (numsOf ps) w (by rw [nums_len]; exact hn) (by rw [nums_len]; exact hm) hA.2.1 (bytesIn_of hA.1) (bytesIn_of hP)).mono ?_
  rintro e w' ⟨rfl, rfl⟩
  rw [nums_bytes, nums_bytes]
  suffices h : ∃ A' n' c', Lib.trimPrefixV A n c (numsOf bs) (numsOf ps) = .slice A' n' c' ∧ BRow w' A' n' c' (Lib.trimPrefix bs ps) by
    obtain ⟨A', n', c', e, hr⟩ := h
    exact ⟨A', n', c', by rw [e], hr, rfl⟩
  have hno : ps = [] → Lib.trimPrefix bs ps = bs := by
    intro e; subst e; unfold Lib.trimPrefix; split <;> simp
  cases A with
  | none =>
    refine ⟨none, n, c, rfl, ?_⟩
    have hc := hA.2.2 rfl
    have hnc := hA.2.1
    have e0 : bs = [] := List.eq_nil_of_length_eq_zero (by omega)
    subst e0
    have : Lib.trimPrefix [] ps = [] := by unfold Lib.trimPrefix; split <;> simp
    rw [this]
    exact hA
  | some ad =>
    cases ps with
    | nil =>
      refine ⟨some ad, n, c, ?_, by rw [hno rfl]; exact hA⟩
      obtain ⟨b, o, s⟩ := ad
      cases s <;> rfl
    | cons p ps =>
      by_cases h0 : n = 0
      · subst h0
        have e0 : bs = [] := List.eq_nil_of_length_eq_zero hn
        subst e0
        have h1 : Lib.trimPrefix [] (p :: ps) = [] := by unfold Lib.trimPrefix; split <;> simp
        have h2 : Lib.hasPrefix [] (p :: ps) = false := rfl
        rw [h1]
        refine ⟨some ad, 0, c, ?_, hA⟩
        obtain ⟨b, o, s⟩ := ad
        cases s
        · show Lib.bytesTrimPrefix b o 0 c (numsOf []) (numsOf (p :: ps)) = _
          unfold Lib.bytesTrimPrefix
          rw [nums_bytes, nums_bytes, h2]
          rfl
        · rfl
      · obtain ⟨b, o, e, hc⟩ := (bytesIn_of hA.1).at (by omega)
        obtain rfl := Option.some.inj e
        show ∃ A' n' c', Lib.bytesTrimPrefix b o n c (numsOf bs) (numsOf (p :: ps)) = .slice A' n' c' ∧ _
        unfold Lib.bytesTrimPrefix Lib.trimPrefix
        rw [nums_bytes, nums_bytes]
        by_cases hp : Lib.hasPrefix bs (p :: ps) = true
        · rw [if_pos hp, if_pos hp, nums_len]
          have hj : (p :: ps).length ≤ n := by
            unfold Lib.hasPrefix at hp
            have := (List.isPrefixOf_iff_prefix.1 hp).length_le
            omega
          obtain ⟨A', e1, h1⟩ := brow_from hA hj
          refine ⟨A', _, _, ?_, h1⟩
          rw [← e1]
          unfold Lib.sliceFrom Lib.fromV
          first
            | rfl
            | (split <;> simp_all [Addr.add])
        · rw [if_neg hp, if_neg hp]
          exact ⟨_, _, _, rfl, hA⟩
theorem bcut_any (A P : Option Addr) (n c d : Nat) (bs : List UInt8) (q : UInt8) (m : Int) (w : World) (hA : BRow w A n c bs) (hP : Reads w 1 P 1 ([q].map encB)) (hs : n < 4294967281) (hm : w.cell? ⟨Tryz.laysBCut_ren.g 0, 0, none⟩ = some (.int .i64 m)) :
    Calls Tryz.prog 102 #[.slice A n c, .slice P 1 d] w fun e w' => ∃ A1 n1 c1 A2 n2 c2, e = .returned (.tuple #[.slice A1 n1 c1, .slice A2 n2 c2, .bool (Lib.cut bs [q]).2.2]) ∧ BRow w' A1 n1 c1 (Lib.cut bs [q]).1 ∧ BRow w' A2 n2 c2 (Lib.cut bs [q]).2.1 ∧ Bl w w' := by
  have hn := hA.len
  refine (Any.bytes_Cut_all Tryz.laysBCut A P n c 1 d (numsOf bs) (numsOf [q]) m w (by rw [nums_len]; exact hn) rfl (nums_range bs) (nums_range _) (bytesIn_of hA.1) (bytesIn_of hP) hA.2.2 hA.2.1 hs (by omega) hm).mono ?_
  rintro e w' ⟨rfl, k, rfl⟩
  rw [nums_bytes, nums_bytes]
  have hb : Bl w (w.drewN k) := bl_drewN w k
  have hg := Lib.index_ge bs [q]
  unfold Lib.cutV Lib.cut
  by_cases h0 : 0 ≤ Lib.index bs [q]
  · rw [if_pos h0, if_pos h0]
    have hroom := Lib.index_room bs [q] h0
    rw [List.length_singleton] at hroom
    obtain ⟨A', e1, h1⟩ := brow_from (hA.bl hb) (j := (Lib.index bs [q]).toNat + 1) (by omega)
    refine ⟨A, (Lib.index bs [q]).toNat, c, A', _, _, ?_, ⟨?_, ?_, (hA.bl hb).2.2⟩, h1, hb⟩
    · rw [e1]
    · rw [List.map_take]
      exact reads_take (hA.bl hb).1 (by omega)
    · have := hA.2.1; omega
  · rw [if_neg h0, if_neg h0]
    exact ⟨A, n, c, none, 0, 0, rfl, hA.bl hb, brow_zero _, hb⟩
theorem bequal_any (A B : Option Addr) (n c m d : Nat) (xs ys : List UInt8) (w : World) (hA : Reads w 1 A n (xs.map encB)) (hB : Reads w 1 B m (ys.map encB)) :
    Calls Tryz.prog 13 #[.slice A n c, .slice B m d] w fun e w' => e = .returned (.bool (xs == ys)) ∧ w' = w := by
  have hn : xs.length = n := by have := hA.1; simpa using this
  have hm : ys.length = m := by have := hB.1; simpa using this
  refine (Any.bytes_Equal_all Tryz.laysBEq A B n c m d (numsOf xs) (numsOf ys) w (by rw [nums_len]; exact hn) (by rw [nums_len]; exact hm) (bytesIn_of hA) (bytesIn_of hB)).mono ?_
  rintro e w' ⟨rfl, rfl⟩
  rw [nums_bytes, nums_bytes]
  exact ⟨rfl, rfl⟩
end Go.Proofs.YtdbnacjdinolcaaGreatDoor
