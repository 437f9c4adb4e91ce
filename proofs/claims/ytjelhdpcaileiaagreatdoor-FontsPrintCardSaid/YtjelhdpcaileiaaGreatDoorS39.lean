/- Rows of bytes: bytes.CutPrefix, bytes.Cut and bytes.Equal in the words of lists of bytes. -/
import Derived.Test.YtjelhdpcaileiaaGreatDoorS27
import Derived.Shelf.Bytes.SlSmallAll
import Derived.Shelf.Bytes.SlCut
import Derived.Shelf.Bytes.SlEqualAll

namespace Go.Proofs
open Go.Shelf
end Go.Proofs
namespace Go.Proofs.YtjelhdpcaileiaaGreatDoor
open Go.RowKit Go.Shelf

/-- A row of bytes, with what its capacity must be. -/
def BRow (w : World) (A : Option Addr) (n c : Nat) (bs : List UInt8) : Prop := Reads w 1 A n (bs.map encB) ∧ n ≤ c ∧ (A = none → c = 0)
theorem BRow.bl {w w' : World} {A : Option Addr} {n c : Nat} {bs : List UInt8} (h : BRow w A n c bs) (hb : Bl w w') : BRow w' A n c bs := ⟨h.1.bl hb, h.2⟩
theorem BRow.len {w : World} {A : Option Addr} {n c : Nat} {bs : List UInt8} (h : BRow w A n c bs) : bs.length = n := by have := h.1.1; simpa using this
def numsOf (bs : List UInt8) : List Int := bs.map fun b => (b.toNat : Int)
theorem nums_len (bs : List UInt8) : (numsOf bs).length = bs.length := by simp [numsOf]
theorem nums_bytes (bs : List UInt8) : Lib.bytesOf (numsOf bs) = bs := by
  unfold Lib.bytesOf numsOf
  rw [List.map_map]
  conv => rhs; rw [← List.map_id bs]
  refine List.map_congr_left fun b _ => ?_
  simp
theorem nums_range (bs : List UInt8) : ∀ x ∈ numsOf bs, 0 ≤ x ∧ x < 256 := by
  intro x hx
  obtain ⟨b, -, rfl⟩ := List.mem_map.1 hx
  have := b.toNat_lt
  omega
theorem bytesIn_of {w : World} {A : Option Addr} {n : Nat} {bs : List UInt8} (h : Reads w 1 A n (bs.map encB)) : Lib.BytesIn w A n (numsOf bs) := by
  have hn : bs.length = n := by have := h.1; simpa using this
  rcases Nat.eq_zero_or_pos n with h0 | h0
  · subst h0; exact Lib.BytesIn.nil _ _ _
  · obtain ⟨ad, rfl, hc⟩ := h.2 h0
    refine Lib.BytesIn.of_cells fun i hi => hc i _ ?_
    rw [List.getElem?_map, List.getElem?_eq_getElem (by omega)]
    simp [numsOf, encB, List.getD, show i < bs.length by omega]
theorem reads_drop {w : World} {ad : Addr} {n j : Nat} {xs : List Value} (h : Reads w 1 (some ad) n xs) (hj : j ≤ n) : Reads w 1 (some (ad.add j)) (n - j) (xs.drop j) := by
  refine ⟨by rw [List.length_drop, h.1]; omega, fun hn => ⟨_, rfl, fun i u hu => ?_⟩⟩
  obtain ⟨ad', e, hc⟩ := h.2 (by omega)
  obtain rfl := Option.some.inj e
  rw [add_of_add]
  rw [List.getElem?_drop] at hu
  exact hc _ _ hu
theorem reads_take {w : World} {A : Option Addr} {n j : Nat} {xs : List Value} (h : Reads w 1 A n xs) (hj : j ≤ n) : Reads w 1 A j (xs.take j) := by
  refine ⟨by rw [List.length_take, h.1]; omega, fun hn => ?_⟩
  obtain ⟨ad, e, hc⟩ := h.2 (by omega)
  refine ⟨ad, e, fun i u hu => hc i u ?_⟩
  have hi : i < j := by
    have := (List.getElem?_eq_some_iff.1 hu).1
    simp at this; omega
  rw [List.getElem?_take_of_lt hi] at hu
  exact hu
theorem brow_from {w : World} {A : Option Addr} {n c j : Nat} {bs : List UInt8} (h : BRow w A n c bs) (hj : j ≤ n) : ∃ A', Lib.fromV A n c j = .slice A' (n - j) (c - j) ∧ BRow w A' (n - j) (c - j) (bs.drop j) := by
  obtain ⟨hr, hc, hz⟩ := h
  refine ⟨_, rfl, ?_, by omega, ?_⟩
  · split
    · rename_i e
      obtain rfl : j = n := by omega
      have hn : bs.length = j := by have := hr.1; simpa using this
      rw [Nat.sub_self, List.drop_eq_nil_of_le (by omega)]
      exact ⟨by simp, fun h => absurd h (by omega)⟩
    · cases A with
      | none =>
        have := hz rfl
        have e0 : n = 0 := by omega
        subst e0
        obtain rfl : j = 0 := by omega
        have hn : bs.length = 0 := by have := hr.1; simpa using this
        rw [List.eq_nil_of_length_eq_zero hn]
        exact ⟨by simp, fun h => absurd h (by omega)⟩
      | some ad =>
        rw [List.map_drop]
        exact reads_drop hr hj
  · split
    · omega
    · cases A with
      | none => intro _; have := hz rfl; omega
      | some ad => intro h; cases h
theorem brow_zero (w : World) : BRow w none 0 0 [] := ⟨Reads.none_, Nat.le_refl _, fun _ => rfl⟩
end Go.Proofs.YtjelhdpcaileiaaGreatDoor
