/- bedref2.head: the beginning of a page as bytes is read. -/
import Derived.Test.YtjelhdpcaileiaaGreatDoorS23
import Derived.Test.YtjelhdpcaileiaaGreatDoorS26
import Derived.Test.YtjelhdpcaileiaaGreatDoorS13
import Derived.Lib.ItoaLen

namespace Go.Proofs.YtjelhdpcaileiaaGreatDoor
open Go.RowKit Go.Shelf

theorem itoa_len (v : Int) (h0 : -9223372036854775808 ≤ v) (h1 : v ≤ 9223372036854775807) : (Lib.itoa v).length ≤ 21 := by
  first
    | exact Lib.itoa_length_le v h0 h1
    | exact Lib.itoa_length_le h0 h1
    | (have := Lib.itoa_length_le v; omega)
theorem bap (x y : List UInt8) : (⟨x.toArray⟩ : ByteArray) ++ ⟨y.toArray⟩ = ⟨(x ++ y).toArray⟩ := by
  apply ByteArray.ext
  simp [ByteArray.data_append]

def headL (kind tail : List UInt8) (W H : Int) : List UInt8 := (kind ++ [10]) ++ (Lib.itoa W ++ 32 :: (Lib.itoa H ++ 10 :: tail))
theorem headL_canon (kind tail rest : List UInt8) (w h : Nat) : headL kind tail (w : Int) (h : Int) ++ rest = canonF kind tail w h rest := by
  unfold headL canonF Lib.itoa
  rw [if_neg (by omega), if_neg (by omega), Int.toNat_natCast, Int.toNat_natCast]
  simp
end Go.Proofs.YtjelhdpcaileiaaGreatDoor


/-! bedref2.head: the beginning of a page as bytes is read. -/
namespace Go.Proofs
open Go.Shelf
def Tryz.laysCutPre_ren : Go.Shelf.Ren := ⟨fun | 103 => 83 | 210 => 158 | 206 => 222 | n => n, fun | 9 => 9 | 4 => 4 | 24 => 135 | 3 => 3 | n => n, fun | n => n⟩
theorem Tryz.laysCutPre : Go.Proofs.Lays.n103 Tryz.prog Tryz.laysCutPre_ren := {
  mixed := by kernel_rfl
  f103 := Tryz.func83.trans (congrArg some (by kernel_rfl))
  f206 := Tryz.func222.trans (congrArg some (by kernel_rfl))
  f210 := Tryz.func158.trans (congrArg some (by kernel_rfl))
  t3 := Tryz.underlying3
  a3 := Tryz.isAgg3
  z3 := Tryz.sizeOf3
  v3 := Tryz.zeroValue3
  t4 := Tryz.underlying4
  a4 := Tryz.isAgg4
  z4 := Tryz.sizeOf4
  v4 := Tryz.zeroValue4
  t9 := Tryz.underlying9
  a9 := Tryz.isAgg9
  z9 := Tryz.sizeOf9
  v9 := Tryz.zeroValue9
  t24 := Tryz.underlying135
  a24 := Tryz.isAgg135
  z24 := Tryz.sizeOf135
  v24 := Tryz.zeroValue135 }

end Go.Proofs
namespace Go.Proofs.YtjelhdpcaileiaaGreatDoor
open Go.RowKit Go.Shelf

theorem conv_bytes (w : World) (A : Option Addr) (n c : Nat) (bs : List UInt8) (h : Reads w 1 A n (bs.map encB)) :
    (convert 40 9 (.slice A n c)).run Tryz.prog w = .ok (.string ⟨bs.toArray⟩) w := by
  have hn : bs.length = n := by have := h.1; simpa using this
  subst hn
  cases A with
  | some a =>
    refine run_convert_bytes_back (P := Tryz.prog) w 40 9 5 a c bs Tryz.underlying40 Tryz.underlying5 Tryz.underlying9 (fun j hj => ?_)
    obtain ⟨ad, u, e, hu, hc⟩ := h.at_ hj
    obtain rfl := Option.some.inj e
    rw [hc]
    rw [List.getElem?_map, List.getElem?_eq_getElem hj] at hu
    exact congrArg some (Option.some.inj hu).symm
  | none =>
    have hz : bs = [] := by
      cases bs with
      | nil => rfl
      | cons b l =>
        obtain ⟨ad, e, -⟩ := h.2 (by simp)
        cases e
    subst hz
    show (convert 40 9 (.slice none 0 c)).run Tryz.prog w = _
    rw [run_convert_bytes_string w 40 9 5 none 0 c Tryz.underlying40 Tryz.underlying5 Tryz.underlying9]
    rfl
theorem cutS_any (t : List UInt8) (d : UInt8) (w : World) (hlen : t.length < 4294967281) (hm : CutOk w) :
    Calls Tryz.prog 81 #[.string ⟨t.toArray⟩, .string ⟨#[d]⟩] w fun e w' => e = .returned (.tuple #[.string ⟨(Lib.cut t [d]).1.toArray⟩, .string ⟨(Lib.cut t [d]).2.1.toArray⟩, .bool (Lib.cut t [d]).2.2]) ∧ Bl w w' := by
  obtain ⟨m, hm⟩ := hm
  have h := Any.strings_Cut Tryz.lays145 ⟨t.toArray⟩ ⟨#[d]⟩ m w (by rw [Lib.size_mk]; omega) hm
  refine Calls.mono (R := fun e w' => e = .returned (.tuple #[.string ⟨(Lib.cut t [d]).1.toArray⟩, .string ⟨(Lib.cut t [d]).2.1.toArray⟩, .bool (Lib.cut t [d]).2.2]) ∧ ∃ n, w' = w.drewN n) h ?_
  rintro e w' ⟨rfl, n, rfl⟩
  exact ⟨rfl, bl_drewN w n⟩
theorem cutPre_any (t p : List UInt8) (w : World) :
    Calls Tryz.prog 83 #[.string ⟨t.toArray⟩, .string ⟨p.toArray⟩] w fun e w' => e = .returned (.tuple #[.string ⟨(Lib.trimPrefix t p).toArray⟩, .bool (Lib.hasPrefix t p)]) ∧ w' = w :=
  Any.strings_CutPrefix Tryz.laysCutPre ⟨t.toArray⟩ ⟨p.toArray⟩ w
theorem cut_le (s : List UInt8) (c : UInt8) : (Lib.cut s [c]).1.length ≤ s.length ∧ (Lib.cut s [c]).2.1.length ≤ s.length := by
  by_cases h : c ∈ s
  · obtain ⟨p, q, rfl, hp⟩ := List.eq_append_cons_of_mem h
    rw [cut_at hp]
    simp only [List.length_append, List.length_cons]
    omega
  · rw [cut_no h]
    exact ⟨Nat.le_refl _, Nat.zero_le _⟩

/-- What bedref2.head answers. -/
def HeadR (kind tail bs : List UInt8) (w : World) (e : Ending) (w' : World) : Prop :=
  ∃ (v1 v2 : Int) (b : Bool) (r : List UInt8) (wx : World), e = .returned (.tuple #[.int .i64 v1, .int .i64 v2, .slice (some ⟨wx.heap.size, 0, none⟩) r.length (grownCap wx r.length 0 5), .bool b]) ∧
    b = (headRv kind tail bs).isSome ∧ (∀ W H rest, headRv kind tail bs = some (W, H, rest) → v1 = (W : Nat) ∧ v2 = (H : Nat) ∧ r = rest) ∧ Bl w wx ∧ w' = Lib.bytesWorld wx 5 ⟨r.toArray⟩
theorem headR_val {kind tail bs a d s4 : List UInt8} {p1 x y z b1 b2 : Bool} {v1 v2 : Int} (HE : headRv kind tail bs = if p1 = true ∧ x = true ∧ y = true ∧ z = true then (match numR a, numR d with
    | some w, some h => some (w, h, s4)
    | _, _ => none) else none) (q1 : (b1 && decide (0 < v1)) = (numR a).isSome) (g1 : ∀ n : Nat, numR a = some n → v1 = n) (q2 : (b2 && decide (0 < v2)) = (numR d).isSome) (g2 : ∀ n : Nat, numR d = some n → v2 = n) :
    (p1 && (x && (y && (z && (b1 && (b2 && (decide (0 < v1) && decide (0 < v2)))))))) = (headRv kind tail bs).isSome ∧ (∀ W H rest, headRv kind tail bs = some (W, H, rest) → v1 = (W : Nat) ∧ v2 = (H : Nat) ∧ s4 = rest) := by
  rw [HE]
  by_cases c : p1 = true ∧ x = true ∧ y = true ∧ z = true
  · rw [if_pos c]
    obtain ⟨rfl, rfl, rfl, rfl⟩ := c
    cases ea : numR a with
    | none =>
      rw [ea] at q1
      refine ⟨?_, fun W H rest h => by cases h⟩
      show (true && (true && (true && (true && (b1 && (b2 && (decide (0 < v1) && decide (0 < v2)))))))) = false
      have q1' : (b1 && decide (0 < v1)) = false := q1
      cases b1
      · rfl
      · have : decide (0 < v1) = false := q1'
        rw [this]
        cases b2 <;> rfl
    | some n1 =>
      rw [ea] at q1
      have q1' : (b1 && decide (0 < v1)) = true := q1
      rw [Bool.and_eq_true] at q1'
      cases ed : numR d with
      | none =>
        rw [ed] at q2
        refine ⟨?_, fun W H rest h => by cases h⟩
        have q2' : (b2 && decide (0 < v2)) = false := q2
        show (true && (true && (true && (true && (b1 && (b2 && (decide (0 < v1) && decide (0 < v2)))))))) = false
        rw [q1'.1, q1'.2]
        exact q2'
      | some n2 =>
        rw [ed] at q2
        have q2' : (b2 && decide (0 < v2)) = true := q2
        rw [Bool.and_eq_true] at q2'
        refine ⟨?_, fun W H rest h => ?_⟩
        · rw [q1'.1, q1'.2, q2'.1, q2'.2]; rfl
        · obtain ⟨rfl, h2⟩ := Prod.mk.inj (Option.some.inj h)
          obtain ⟨rfl, rfl⟩ := Prod.mk.inj h2
          exact ⟨g1 _ ea, g2 _ ed, rfl⟩
  · rw [if_neg c]
    refine ⟨?_, fun W H rest h => by cases h⟩
    cases p1
    · rfl
    cases x
    · rfl
    cases y
    · rfl
    cases z
    · rfl
    exact absurd ⟨rfl, rfl, rfl, rfl⟩ c
theorem six_of (p x y z a b : Bool) : p = false ∨ (p = true ∧ x = false) ∨ (p = true ∧ x = true ∧ y = false) ∨ (p = true ∧ x = true ∧ y = true ∧ z = false) ∨ (p = true ∧ x = true ∧ y = true ∧ z = true ∧ a = false) ∨ (p = true ∧ x = true ∧ y = true ∧ z = true ∧ a = true ∧ b = false) ∨ (p = true ∧ x = true ∧ y = true ∧ z = true ∧ a = true ∧ b = true) := by
  cases p <;> cases x <;> cases y <;> cases z <;> cases a <;> cases b <;> decide

end Go.Proofs.YtjelhdpcaileiaaGreatDoor
