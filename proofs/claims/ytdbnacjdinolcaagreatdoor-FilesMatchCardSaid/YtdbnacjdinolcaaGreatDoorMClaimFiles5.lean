/- The plain law of pages that are packed: eight places a byte. -/
import Derived.Test.YtdbnacjdinolcaaGreatDoorMClaimFiles2
import Derived.Test.YtdbnacjdinolcaaGreatDoorMClaimFiles1
import Derived.Lib.IndexMore
import Derived.Lib.Strings

namespace Go.Proofs.YtdbnacjdinolcaaGreatDoor
open Go.RowKit

theorem occ_one (s : List UInt8) (c : UInt8) (j : Nat) : Lib.occAt s [c] j = decide (s[j]? = some c) := by
  unfold Lib.occAt
  rw [← List.head?_drop]
  cases h : s.drop j with
  | nil => rfl
  | cons a l =>
    show (c == a && ([] : List UInt8).isPrefixOf l) = decide (some a = some c)
    rw [show ([] : List UInt8).isPrefixOf l = true by cases l <;> rfl, Bool.and_true, Bool.eq_iff_iff, beq_iff_eq, decide_eq_true_eq]
    constructor
    · rintro rfl; rfl
    · intro h; exact (Option.some.inj h).symm
theorem cut_at {a b : List UInt8} {c : UInt8} (h : c ∉ a) : Lib.cut (a ++ c :: b) [c] = (a, b, true) := by
  have hi : Lib.index (a ++ c :: b) [c] = (a.length : Int) := by
    refine Lib.index_first (by rw [List.length_append]; omega) ?_ fun j hj => ?_
    · rw [occ_one, List.getElem?_append_right (Nat.le_refl _), Nat.sub_self]
      exact decide_eq_true rfl
    · rw [occ_one]
      refine decide_eq_false fun e => h ?_
      rw [List.getElem?_append_left hj] at e
      exact List.mem_of_getElem? e
  unfold Lib.cut
  rw [hi, if_pos (by omega), Int.toNat_natCast, List.take_left' rfl]
  have : (a ++ c :: b).drop (a.length + [c].length) = b := by
    rw [show a ++ c :: b = (a ++ [c]) ++ b by simp]
    exact List.drop_left' (by simp)
  rw [this]
theorem cut_no {s : List UInt8} {c : UInt8} (h : c ∉ s) : Lib.cut s [c] = (s, [], false) := by
  have hi : Lib.index s [c] = -1 := Lib.index_none fun j _ => by
    rw [occ_one]
    exact decide_eq_false fun e => h (List.mem_of_getElem? e)
  unfold Lib.cut
  rw [hi, if_neg (by decide)]
theorem cut_iff {s a b : List UInt8} {c : UInt8} : Lib.cut s [c] = (a, b, true) ↔ s = a ++ c :: b ∧ c ∉ a := by
  constructor
  · intro h
    by_cases hc : c ∈ s
    · obtain ⟨p, q, rfl, hp⟩ := List.eq_append_cons_of_mem hc
      rw [cut_at hp] at h
      obtain ⟨rfl, h2⟩ := Prod.mk.inj h
      obtain ⟨rfl, -⟩ := Prod.mk.inj h2
      exact ⟨rfl, hp⟩
    · rw [cut_no hc] at h
      cases (Prod.mk.inj (Prod.mk.inj h).2).2
  · rintro ⟨rfl, h⟩
    exact cut_at h
theorem cut_true {s : List UInt8} {c : UInt8} (h : (Lib.cut s [c]).2.2 = true) : s = (Lib.cut s [c]).1 ++ c :: (Lib.cut s [c]).2.1 ∧ c ∉ (Lib.cut s [c]).1 := cut_iff.1 (by rw [← h])
theorem hasPre_iff {s p : List UInt8} : Lib.hasPrefix s p = true ↔ s = p ++ Lib.trimPrefix s p := by
  unfold Lib.trimPrefix
  constructor
  · intro h
    rw [if_pos h]
    unfold Lib.hasPrefix at h
    obtain ⟨t, rfl⟩ := List.isPrefixOf_iff_prefix.1 h
    rw [List.drop_left' rfl]
  · intro h
    by_cases hp : Lib.hasPrefix s p = true
    · exact hp
    · rw [if_neg hp] at h
      have hl := congrArg List.length h
      rw [List.length_append] at hl
      have hp0 : p = [] := List.eq_nil_of_length_eq_zero (by omega)
      rw [hp0] at hp
      exact absurd (show Lib.hasPrefix s [] = true by unfold Lib.hasPrefix; cases s <;> rfl) hp
theorem pre_app (p r : List UInt8) : Lib.hasPrefix (p ++ r) p = true ∧ Lib.trimPrefix (p ++ r) p = r := by
  have h : Lib.hasPrefix (p ++ r) p = true := by
    unfold Lib.hasPrefix
    exact List.isPrefixOf_iff_prefix.2 ⟨r, rfl⟩
  exact ⟨h, by unfold Lib.trimPrefix; rw [if_pos h, List.drop_left' rfl]⟩
/-- A page as bytes: its kind, its size, a tail, what follows. -/
def canonF (kind tail : List UInt8) (w h : Nat) (rest : List UInt8) : List UInt8 := (kind ++ [10]) ++ (Lib.decDigits w ++ 32 :: (Lib.decDigits h ++ 10 :: (tail ++ rest)))
def headPv (kind tail f : List UInt8) : Option (Nat × Nat × List UInt8) :=
  let c1 := Lib.cut (Lib.trimPrefix f (kind ++ [10])) [10]
  let c2 := Lib.cut c1.1 [32]
  if Lib.hasPrefix f (kind ++ [10]) = true ∧ c1.2.2 = true ∧ c2.2.2 = true ∧ Lib.hasPrefix c1.2.1 tail = true then (match numP c2.1, numP c2.2.1 with
    | some w, some h => some (w, h, Lib.trimPrefix c1.2.1 tail)
    | _, _ => none) else none
def headRv (kind tail f : List UInt8) : Option (Nat × Nat × List UInt8) :=
  let d1 := Lib.cut (Lib.trimPrefix f (kind ++ [10])) [32]
  let d2 := Lib.cut d1.2.1 [10]
  if Lib.hasPrefix f (kind ++ [10]) = true ∧ d1.2.2 = true ∧ d2.2.2 = true ∧ Lib.hasPrefix d2.2.1 tail = true then (match numR d1.1, numR d2.1 with
    | some w, some h => some (w, h, Lib.trimPrefix d2.2.1 tail)
    | _, _ => none) else none
theorem dec_no {n : Nat} {c : UInt8} (hc : c.toNat < 48) : c ∉ Lib.decDigits n := fun h => by have := dec_all n c h; omega
theorem headP_iff {kind tail f rest : List UInt8} {w h : Nat} : headPv kind tail f = some (w, h, rest) ↔ (1 ≤ w ∧ w ≤ 9999) ∧ (1 ≤ h ∧ h ≤ 9999) ∧ f = canonF kind tail w h rest := by
  constructor
  · intro he
    unfold headPv at he
    simp only at he
    split at he
    · rename_i hc
      obtain ⟨h1, h2, h3, h4⟩ := hc
      split at he
      · rename_i w' h' hw hh
        obtain ⟨rfl, e2⟩ := Prod.mk.inj (Option.some.inj he)
        obtain ⟨rfl, rfl⟩ := Prod.mk.inj e2
        obtain ⟨w1, w9, ew⟩ := (numP_iff _ _).1 hw
        obtain ⟨q1, q9, eh⟩ := (numP_iff _ _).1 hh
        refine ⟨⟨w1, w9⟩, ⟨q1, q9⟩, ?_⟩
        have a1 := hasPre_iff.1 h1
        have a2 := (cut_true h2).1
        have a3 := (cut_true h3).1
        have a4 := hasPre_iff.1 h4
        rw [ew, eh] at a3
        rw [a3, a4] at a2
        rw [a2] at a1
        refine a1.trans ?_
        unfold canonF
        simp only [List.append_assoc, List.cons_append]
      · cases he
    · cases he
  · rintro ⟨⟨w1, w9⟩, ⟨q1, q9⟩, rfl⟩
    unfold headPv canonF
    obtain ⟨p1, p2⟩ := pre_app (kind ++ [10]) (Lib.decDigits w ++ 32 :: (Lib.decDigits h ++ 10 :: (tail ++ rest)))
    obtain ⟨p3, p4⟩ := pre_app tail rest
    have c1 : Lib.cut (Lib.decDigits w ++ 32 :: (Lib.decDigits h ++ 10 :: (tail ++ rest))) [10] = (Lib.decDigits w ++ 32 :: Lib.decDigits h, tail ++ rest, true) := by
      rw [show Lib.decDigits w ++ 32 :: (Lib.decDigits h ++ 10 :: (tail ++ rest)) = (Lib.decDigits w ++ 32 :: Lib.decDigits h) ++ 10 :: (tail ++ rest) by simp]
      refine cut_at fun hm => ?_
      rcases List.mem_append.1 hm with hm | hm
      · exact dec_no (by decide) hm
      · rcases List.mem_cons.1 hm with hm | hm
        · exact absurd hm (by decide)
        · exact dec_no (by decide) hm
    have c2 : Lib.cut (Lib.decDigits w ++ 32 :: Lib.decDigits h) [32] = (Lib.decDigits w, Lib.decDigits h, true) := cut_at (dec_no (by decide))
    simp only [p1, p2, c1, c2, p3, p4, and_self, if_true, (numP_iff _ _).2 ⟨w1, w9, rfl⟩, (numP_iff _ _).2 ⟨q1, q9, rfl⟩]
theorem headR_iff {kind tail f rest : List UInt8} {w h : Nat} : headRv kind tail f = some (w, h, rest) ↔ (1 ≤ w ∧ w ≤ 9999) ∧ (1 ≤ h ∧ h ≤ 9999) ∧ f = canonF kind tail w h rest := by
  constructor
  · intro he
    unfold headRv at he
    simp only at he
    split at he
    · rename_i hc
      obtain ⟨h1, h2, h3, h4⟩ := hc
      split at he
      · rename_i w' h' hw hh
        obtain ⟨rfl, e2⟩ := Prod.mk.inj (Option.some.inj he)
        obtain ⟨rfl, rfl⟩ := Prod.mk.inj e2
        obtain ⟨w1, w9, ew⟩ := (numR_iff _ _).1 hw
        obtain ⟨q1, q9, eh⟩ := (numR_iff _ _).1 hh
        refine ⟨⟨w1, w9⟩, ⟨q1, q9⟩, ?_⟩
        have a1 := hasPre_iff.1 h1
        have a2 := (cut_true h2).1
        have a3 := (cut_true h3).1
        have a4 := hasPre_iff.1 h4
        rw [eh, a4] at a3
        rw [ew, a3] at a2
        rw [a2] at a1
        unfold canonF
        exact a1
      · cases he
    · cases he
  · rintro ⟨⟨w1, w9⟩, ⟨q1, q9⟩, rfl⟩
    unfold headRv canonF
    obtain ⟨p1, p2⟩ := pre_app (kind ++ [10]) (Lib.decDigits w ++ 32 :: (Lib.decDigits h ++ 10 :: (tail ++ rest)))
    obtain ⟨p3, p4⟩ := pre_app tail rest
    have c1 : Lib.cut (Lib.decDigits w ++ 32 :: (Lib.decDigits h ++ 10 :: (tail ++ rest))) [32] = (Lib.decDigits w, Lib.decDigits h ++ 10 :: (tail ++ rest), true) := cut_at (dec_no (by decide))
    have c2 : Lib.cut (Lib.decDigits h ++ 10 :: (tail ++ rest)) [10] = (Lib.decDigits h, tail ++ rest, true) := cut_at (dec_no (by decide))
    simp only [p1, p2, c1, c2, p3, p4, and_self, if_true, (numR_iff _ _).2 ⟨w1, w9, rfl⟩, (numR_iff _ _).2 ⟨q1, q9, rfl⟩]
theorem head_same (kind tail f : List UInt8) : headPv kind tail f = headRv kind tail f := by
  cases hp : headPv kind tail f with
  | some x => obtain ⟨w, h, r⟩ := x; exact (headR_iff.2 (headP_iff.1 hp)).symm
  | none =>
    cases hr : headRv kind tail f with
    | none => rfl
    | some x =>
      obtain ⟨w, h, r⟩ := x
      have := headP_iff.2 (headR_iff.1 hr)
      rw [hp] at this
      cases this
end Go.Proofs.YtdbnacjdinolcaaGreatDoor


/-! The plain law of pages that are packed: eight places a byte. -/
namespace Go.Proofs.YtdbnacjdinolcaaGreatDoor
open Go.RowKit

def byteN (f : Nat → Bool) : Nat → Nat
  | 0 => 0
  | k + 1 => 2 * byteN f k + (f k).toNat
def byteOf (f : Nat → Bool) : Nat := byteN f 8
theorem byteN_lt (f : Nat → Bool) : ∀ k, byteN f k < 2 ^ k
  | 0 => Nat.one_pos
  | k + 1 => by
    have h := byteN_lt f k
    have h2 : (f k).toNat ≤ 1 := by cases f k <;> decide
    have h3 : byteN f (k + 1) = 2 * byteN f k + (f k).toNat := rfl
    rw [h3, Nat.pow_succ]
    omega
theorem byteOf_lt (f : Nat → Bool) : byteOf f < 256 := byteN_lt f 8
theorem byteN_congr {f g : Nat → Bool} : ∀ (k : Nat), (∀ t, t < k → f t = g t) → byteN f k = byteN g k
  | 0, _ => rfl
  | k + 1, h => by
    show 2 * byteN f k + (f k).toNat = 2 * byteN g k + (g k).toNat
    rw [byteN_congr k fun t ht => h t (by omega), h k (by omega)]
theorem byteOf_congr {f g : Nat → Bool} (h : ∀ t, t < 8 → f t = g t) : byteOf f = byteOf g := byteN_congr 8 h
def byte8 (a b c d e f g h : Bool) : Nat := 2 * (2 * (2 * (2 * (2 * (2 * (2 * (2 * 0 + a.toNat) + b.toNat) + c.toNat) + d.toNat) + e.toNat) + f.toNat) + g.toNat) + h.toNat
theorem byteOf_eq (f : Nat → Bool) : byteOf f = byte8 (f 0) (f 1) (f 2) (f 3) (f 4) (f 5) (f 6) (f 7) := rfl
/-- The place k of a byte. -/
def bitAt (v k : Nat) : Bool := v / 2 ^ (7 - k) % 2 == 1
theorem lt8 {k : Nat} (h : k < 8) : k = 0 ∨ k = 1 ∨ k = 2 ∨ k = 3 ∨ k = 4 ∨ k = 5 ∨ k = 6 ∨ k = 7 := by omega
theorem bits8 : ∀ v, v < 256 → byte8 (bitAt v 0) (bitAt v 1) (bitAt v 2) (bitAt v 3) (bitAt v 4) (bitAt v 5) (bitAt v 6) (bitAt v 7) = v := by decide +kernel
theorem byteOf_bits {v : Nat} (h : v < 256) : byteOf (bitAt v) = v := (byteOf_eq _).trans (bits8 v h)
theorem bit_byte8 : ∀ a b c d e f g h : Bool, (bitAt (byte8 a b c d e f g h) 0 = a ∧ bitAt (byte8 a b c d e f g h) 1 = b ∧ bitAt (byte8 a b c d e f g h) 2 = c ∧ bitAt (byte8 a b c d e f g h) 3 = d) ∧ (bitAt (byte8 a b c d e f g h) 4 = e ∧ bitAt (byte8 a b c d e f g h) 5 = f ∧ bitAt (byte8 a b c d e f g h) 6 = g ∧ bitAt (byte8 a b c d e f g h) 7 = h) := by decide +kernel
theorem bit_byteOf (f : Nat → Bool) {k : Nat} (h : k < 8) : bitAt (byteOf f) k = f k := by
  rw [byteOf_eq]
  obtain ⟨⟨h0, h1, h2, h3⟩, h4, h5, h6, h7⟩ := bit_byte8 (f 0) (f 1) (f 2) (f 3) (f 4) (f 5) (f 6) (f 7)
  rcases lt8 h with rfl | rfl | rfl | rfl | rfl | rfl | rfl | rfl <;> assumption
theorem or_byte8 : ∀ a b c d e f g h : Bool, ((byte8 a b c d e f g h ||| 128 = byte8 true b c d e f g h ∧ byte8 a b c d e f g h ||| 64 = byte8 a true c d e f g h) ∧ byte8 a b c d e f g h ||| 32 = byte8 a b true d e f g h ∧ byte8 a b c d e f g h ||| 16 = byte8 a b c true e f g h) ∧ (byte8 a b c d e f g h ||| 8 = byte8 a b c d true f g h ∧ byte8 a b c d e f g h ||| 4 = byte8 a b c d e true g h) ∧ byte8 a b c d e f g h ||| 2 = byte8 a b c d e f true h ∧ byte8 a b c d e f g h ||| 1 = byte8 a b c d e f g true := by decide +kernel
theorem byteOf_or (f : Nat → Bool) {k : Nat} (h : k < 8) : byteOf f ||| 128 / 2 ^ k = byteOf (fun t => f t || t == k) := by
  rw [byteOf_eq, byteOf_eq]
  obtain ⟨⟨⟨h0, h1⟩, h2, h3⟩, ⟨h4, h5⟩, h6, h7⟩ := or_byte8 (f 0) (f 1) (f 2) (f 3) (f 4) (f 5) (f 6) (f 7)
  rcases lt8 h with rfl | rfl | rfl | rfl | rfl | rfl | rfl | rfl <;> simp only [Nat.reduceBEq, Bool.or_true, Bool.or_false, beq_self_eq_true] <;> assumption
theorem and_bits : ∀ v, v < 256 → ∀ k, k < 8 → (v &&& 128 / 2 ^ k != 0) = bitAt v k := by decide +kernel
theorem spare_bits : ∀ v, v < 256 → ∀ r, r < 8 → (byte8 (decide (0 ≤ r) && bitAt v 0) (decide (1 ≤ r) && bitAt v 1) (decide (2 ≤ r) && bitAt v 2) (decide (3 ≤ r) && bitAt v 3) (decide (4 ≤ r) && bitAt v 4) (decide (5 ≤ r) && bitAt v 5) (decide (6 ≤ r) && bitAt v 6) (decide (7 ≤ r) && bitAt v 7) = v ↔ v &&& 255 / 2 ^ (r + 1) = 0) := by decide +kernel
theorem byte_spare {v r : Nat} (hv : v < 256) (h1 : 1 ≤ r) (h8 : r ≤ 8) : byteOf (fun k => decide (k < r) && bitAt v k) = v ↔ v &&& 255 / 2 ^ r = 0 := by
  have h := spare_bits v hv (r - 1) (by omega)
  rw [show r - 1 + 1 = r by omega] at h
  rw [byteOf_eq, ← h]
  have e : ∀ k, decide (k < r) = decide (k ≤ r - 1) := fun k => decide_eq_decide.2 (by omega)
  simp only [e]

/-! ### rows of bytes -/
def longOf (W : Nat) : Nat := (W + 7) / 8
theorem longOf_pos {W : Nat} (h : 1 ≤ W) : 1 ≤ longOf W := by unfold longOf; omega
def packAt (W : Nat) (bs : List Bool) (c y : Nat) : Nat := byteOf fun k => decide (c * 8 + k < W) && pix bs W (c * 8 + k) y
def packB (W H : Nat) (bs : List Bool) : List UInt8 := (List.range (longOf W * H)).map fun j => UInt8.ofNat (packAt W bs (j % longOf W) (j / longOf W))
theorem packB_len (W H : Nat) (bs : List Bool) : (packB W H bs).length = longOf W * H := by simp [packB]
theorem packB_at (W H : Nat) (bs : List Bool) {j : Nat} (h : j < longOf W * H) : (packB W H bs)[j]? = some (UInt8.ofNat (packAt W bs (j % longOf W) (j / longOf W))) := by simp [packB, h]
theorem packAt_lt (W : Nat) (bs : List Bool) (c y : Nat) : packAt W bs c y < 256 := byteOf_lt _
theorem ofNat_lt {n : Nat} (h : n < 256) : (UInt8.ofNat n).toNat = n := by rw [UInt8.toNat_ofNat']; omega
/-- The place (x, y) of rows of bytes. -/
def bitF (L : Nat) (r : List UInt8) (x y : Nat) : Bool := bitAt (r.getD (y * L + x / 8) 0).toNat (x % 8)
theorem at_div {L c y : Nat} (hc : c < L) : (y * L + c) % L = c ∧ (y * L + c) / L = y := by
  rw [Nat.mul_comm]
  exact ⟨by rw [Nat.mul_add_mod, Nat.mod_eq_of_lt hc], by rw [Nat.mul_add_div (by omega), Nat.div_eq_of_lt hc, Nat.add_zero]⟩
theorem col_lt {W x : Nat} (h : x < W) : x / 8 < longOf W := by unfold longOf; omega
theorem packB_get (W H : Nat) (bs : List Bool) {c y : Nat} (hc : c < longOf W) (hy : y < H) : ((packB W H bs).getD (y * longOf W + c) 0).toNat = packAt W bs c y := by
  rw [List.getD_eq_getElem?_getD, packB_at W H bs (place_lt (W := longOf W) (H := H) hc hy), (at_div hc).1, (at_div hc).2]
  exact ofNat_lt (packAt_lt ..)
/-- What is packed is unpacked as it was. -/
theorem bit_pack (W H : Nat) (bs : List Bool) {x y : Nat} (hx : x < W) (hy : y < H) : bitF (longOf W) (packB W H bs) x y = pix bs W x y := by
  unfold bitF
  rw [packB_get W H bs (col_lt hx) hy]
  unfold packAt
  rw [bit_byteOf _ (Nat.mod_lt _ (by decide))]
  rw [show x / 8 * 8 + x % 8 = x by omega, decide_eq_true hx]
  rfl
theorem unpack_pack (W H : Nat) (bs : List Bool) (h : bs.length = W * H) : grid W H (bitF (longOf W) (packB W H bs)) = bs :=
  (grid_congr W H _ _ fun _ _ hx hy => bit_pack W H bs hx hy).trans (grid_pix W H bs h)
/-- No ink beyond the width. -/
def spareB (W : Nat) (r : List UInt8) : Prop := ∀ j, j < r.length → j % longOf W = longOf W - 1 → W % 8 ≠ 0 → (r.getD j 0).toNat &&& 255 / 2 ^ (W % 8) = 0
theorem pack_grid {W H : Nat} (r : List UInt8) {c y : Nat} (hy : y < H) : packAt W (grid W H (bitF (longOf W) r)) c y = byteOf (fun k => decide (k < W - c * 8) && bitAt (r.getD (y * longOf W + c) 0).toNat k) := by
  unfold packAt
  refine byteOf_congr fun k hk => ?_
  by_cases hx : c * 8 + k < W
  · rw [decide_eq_true hx, decide_eq_true (show k < W - c * 8 by omega), Bool.true_and, Bool.true_and, pix_grid W H _ _ _ hx hy]
    unfold bitF
    rw [show (c * 8 + k) / 8 = c by omega, show (c * 8 + k) % 8 = k by omega]
  · rw [decide_eq_false hx, decide_eq_false (show ¬ k < W - c * 8 by omega), Bool.false_and, Bool.false_and]
theorem pack_same {W H : Nat} (r : List UInt8) (hW : 1 ≤ W) {c y : Nat} (hc : c < longOf W) (hy : y < H) :
    packAt W (grid W H (bitF (longOf W) r)) c y = (r.getD (y * longOf W + c) 0).toNat ↔ (c = longOf W - 1 → W % 8 ≠ 0 → (r.getD (y * longOf W + c) 0).toNat &&& 255 / 2 ^ (W % 8) = 0) := by
  rw [pack_grid r hy]
  have hv : (r.getD (y * longOf W + c) 0).toNat < 256 := UInt8.toNat_lt _
  generalize (r.getD (y * longOf W + c) 0).toNat = v at hv
  by_cases hl : c = longOf W - 1
  · by_cases h8 : W % 8 = 0
    · have e : W - c * 8 = 8 := by unfold longOf at hl; omega
      rw [e]
      refine ⟨fun _ _ h => absurd h8 h, fun _ => (byteOf_congr fun k hk => ?_).trans (byteOf_bits hv)⟩
      rw [decide_eq_true hk]
      rfl
    · have e : W - c * 8 = W % 8 := by unfold longOf at hl; omega
      rw [e, byte_spare hv (by omega) (by omega)]
      exact ⟨fun h _ _ => h, fun h => h hl h8⟩
  · refine ⟨fun _ h => absurd h hl, fun _ => (byteOf_congr fun k hk => ?_).trans (byteOf_bits hv)⟩
    rw [decide_eq_true (show k < W - c * 8 by unfold longOf at hl hc; omega)]
    rfl
/-- What is unpacked is packed as it was if, and only if, there is no ink beyond the width. -/
theorem pack_unpack {W H : Nat} {r : List UInt8} (hW : 1 ≤ W) (hr : r.length = longOf W * H) : packB W H (grid W H (bitF (longOf W) r)) = r ↔ spareB W r := by
  have hL := longOf_pos hW
  constructor
  · intro h j hj h1 h2
    have hy : j / longOf W < H := Nat.div_lt_of_lt_mul (by omega)
    have hc : j % longOf W < longOf W := Nat.mod_lt _ hL
    have e : j / longOf W * longOf W + j % longOf W = j := by rw [Nat.mul_comm]; exact Nat.div_add_mod j _
    have hp := packB_get W H (grid W H (bitF (longOf W) r)) hc hy
    rw [h] at hp
    have := (pack_same r hW hc hy).1 hp.symm h1 h2
    rw [e] at this
    exact this
  · intro h
    apply List.ext_getElem?
    intro j
    rcases Nat.lt_or_ge j (longOf W * H) with hj | hj
    · have hy : j / longOf W < H := Nat.div_lt_of_lt_mul hj
      have hc : j % longOf W < longOf W := Nat.mod_lt _ hL
      have e : j / longOf W * longOf W + j % longOf W = j := by rw [Nat.mul_comm]; exact Nat.div_add_mod j _
      have hs := (pack_same r hW hc hy).2 (fun h1 h2 => by rw [e]; exact h j (by omega) h1 h2)
      rw [packB_at W H _ hj, hs, e, List.getD_eq_getElem?_getD, List.getElem?_eq_getElem (by omega)]
      simp
    · rw [List.getElem?_eq_none (by rw [packB_len]; exact hj), List.getElem?_eq_none (by omega)]
theorem spare_pack {W H : Nat} (bs : List Bool) (hW : 1 ≤ W) (h : bs.length = W * H) : spareB W (packB W H bs) :=
  (pack_unpack hW (packB_len W H bs)).1 (by rw [unpack_pack W H bs h])
/-! ### as they are written -/
/-- A byte as the program has it behind the first i places of the page. -/
def packTo (W : Nat) (bs : List Bool) (i j : Nat) : Nat := byteOf fun k => decide (j % longOf W * 8 + k < W) && (decide (j / longOf W * W + (j % longOf W * 8 + k) < i) && pix bs W (j % longOf W * 8 + k) (j / longOf W))
theorem packTo_lt (W : Nat) (bs : List Bool) (i j : Nat) : packTo W bs i j < 256 := byteOf_lt _
theorem packTo_zero (W : Nat) (bs : List Bool) (j : Nat) : packTo W bs 0 j = 0 := by
  unfold packTo
  rw [byteOf_congr (g := fun _ => false) fun k _ => by simp]
  rfl
theorem packTo_all (W H : Nat) (bs : List Bool) {j : Nat} (hj : j < longOf W * H) : packTo W bs (W * H) j = packAt W bs (j % longOf W) (j / longOf W) := by
  unfold packTo packAt
  refine byteOf_congr fun k _ => ?_
  have hy : j / longOf W < H := Nat.div_lt_of_lt_mul hj
  by_cases hx : j % longOf W * 8 + k < W
  · rw [decide_eq_true (place_lt (W := W) (H := H) hx hy), Bool.true_and]
  · rw [decide_eq_false hx, Bool.false_and, Bool.false_and]
theorem place_eq {W i x y : Nat} (hx : x < W) : y * W + x = i ↔ y = i / W ∧ x = i % W := by
  constructor
  · intro h
    have h2 := at_div (L := W) (c := x) (y := y) hx
    rw [h] at h2
    exact ⟨h2.2.symm, h2.1.symm⟩
  · rintro ⟨rfl, rfl⟩
    rw [Nat.mul_comm]; exact Nat.div_add_mod i W
theorem pix_place {W i : Nat} (bs : List Bool) : pix bs W (i % W) (i / W) = bs.getD i false := by
  unfold pix
  rw [Nat.mul_comm, Nat.div_add_mod]
/-- The place i is taken up. -/
theorem packTo_other {W i j : Nat} (bs : List Bool) (h : bs.getD i false = false ∨ j ≠ i / W * longOf W + i % W / 8) : packTo W bs (i + 1) j = packTo W bs i j := by
  unfold packTo
  refine byteOf_congr fun k hk => ?_
  by_cases hx : j % longOf W * 8 + k < W
  · rw [decide_eq_true hx, Bool.true_and, Bool.true_and]
    by_cases he : j / longOf W * W + (j % longOf W * 8 + k) = i
    · obtain ⟨h1, h2⟩ := (place_eq hx).1 he
      rcases h with h | h
      · have : pix bs W (j % longOf W * 8 + k) (j / longOf W) = false := by rw [h1, h2, pix_place, h]
        rw [this, Bool.and_false, Bool.and_false]
      · refine absurd ?_ h
        rw [← h1, ← h2, show (j % longOf W * 8 + k) / 8 = j % longOf W by omega, Nat.mul_comm]
        exact (Nat.div_add_mod j _).symm
    · congr 1
      exact decide_eq_decide.2 (by omega)
  · rw [decide_eq_false hx, Bool.false_and, Bool.false_and]
theorem packTo_here {W i : Nat} (bs : List Bool) (hW : 1 ≤ W) (h : bs.getD i false = true) : packTo W bs (i + 1) (i / W * longOf W + i % W / 8) = packTo W bs i (i / W * longOf W + i % W / 8) ||| 128 / 2 ^ (i % W % 8) := by
  have hx : i % W < W := Nat.mod_lt _ hW
  have hd := at_div (L := longOf W) (c := i % W / 8) (y := i / W) (col_lt hx)
  unfold packTo
  rw [byteOf_or _ (Nat.mod_lt _ (by decide)), hd.1, hd.2]
  refine byteOf_congr fun k hk => ?_
  by_cases he : k = i % W % 8
  · subst he
    have e1 : i % W / 8 * 8 + i % W % 8 = i % W := by omega
    have e2 : i / W * W + i % W = i := by rw [Nat.mul_comm]; exact Nat.div_add_mod i W
    rw [e1, e2, pix_place, h]
    simp [hx]
  · have e0 : (k == i % W % 8) = false := by simpa using he
    rw [e0, Bool.or_false]
    by_cases hw : i % W / 8 * 8 + k < W
    · congr 2
      refine decide_eq_decide.2 ?_
      have : i / W * W + (i % W / 8 * 8 + k) ≠ i := fun e => by
        have := ((place_eq hw).1 e).2
        omega
      omega
    · rw [decide_eq_false hw, Bool.false_and, Bool.false_and]
/-- The first m bytes of a page. -/
def packTake (W : Nat) (bs : List Bool) (m : Nat) : List UInt8 := (List.range m).map fun j => UInt8.ofNat (packAt W bs (j % longOf W) (j / longOf W))
theorem packTake_all (W H : Nat) (bs : List Bool) : packTake W bs (longOf W * H) = packB W H bs := rfl
theorem packTake_succ {W : Nat} (bs : List Bool) {c y : Nat} (hc : c < longOf W) : packTake W bs (y * longOf W + c + 1) = packTake W bs (y * longOf W + c) ++ [UInt8.ofNat (packAt W bs c y)] := by
  unfold packTake
  rw [List.range_succ, List.map_append]
  simp only [List.map_cons, List.map_nil, (at_div hc).1, (at_div hc).2]
end Go.Proofs.YtdbnacjdinolcaaGreatDoor
