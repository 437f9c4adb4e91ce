/- bedref2.head: the beginning of a page as bytes is read. -/
import Derived.Test.YtdbnacjdinolcaaGreatDoorMClaimFiles10
import Derived.Test.YtdbnacjdinolcaaGreatDoorMClaimFiles8
import Derived.Test.YtdbnacjdinolcaaGreatDoorMClaimFiles6
import Derived.Lib.ItoaLen

namespace Go.Proofs.YtdbnacjdinolcaaGreatDoor
open Go.RowKit Go.Shelf

theorem itoa_len (v : Int) (h0 : -9223372036854775808 ≤ v) (h1 : v ≤ 9223372036854775807) : (Lib.itoa v).length ≤ 21 := by
  first
    | exact Lib.itoa_length_le v h0 h1
    | exact Lib.itoa_length_le h0 h1
    | (have := Lib.itoa_length_le v; omega)
theorem bap (x y : List UInt8) : (⟨x.toArray⟩ : ByteArray) ++ ⟨y.toArray⟩ = ⟨(x ++ y).toArray⟩ := by
  apply ByteArray.ext
  simp [ByteArray.data_append]

set_option maxRecDepth 100000 in
set_option maxHeartbeats 1000000 in
theorem size_any (W H : Int) (W0 : -9223372036854775808 ≤ W) (W1 : W ≤ 9223372036854775807) (H0 : -9223372036854775808 ≤ H) (H1 : H ≤ 9223372036854775807) (w : World) (hN : NumOk w) :
    Calls Tryz.prog 48 #[.int .i64 W, .int .i64 H] w fun e w' => e = .returned (.string ⟨(Lib.itoa W ++ 32 :: (Lib.itoa H ++ [10])).toArray⟩) ∧ Bl w w' := by
  obtain ⟨a, ha⟩ : ∃ r : ByteArray, r = ⟨(Lib.itoa W).toArray⟩ := ⟨_, rfl⟩
  obtain ⟨b, hb⟩ : ∃ r : ByteArray, r = ⟨(Lib.itoa H).toArray⟩ := ⟨_, rfl⟩
  have hA : ∀ w, NumOk w → Calls Tryz.prog 59 #[.int .i64 W] w fun e w' => e = .returned (.string a) ∧ Bl w w' := by
    rw [ha]; exact fun w hN => itoa_any W W0 W1 w hN
  have hB : ∀ w, NumOk w → Calls Tryz.prog 59 #[.int .i64 H] w fun e w' => e = .returned (.string b) ∧ Bl w w' := by
    rw [hb]; exact fun w hN => itoa_any H H0 H1 w hN
  have la : a.size ≤ 21 := by rw [ha, Lib.size_mk]; exact itoa_len W W0 W1
  have lb : b.size ≤ 21 := by rw [hb, Lib.size_mk]; exact itoa_len H H0 H1
  have Ha := Lib.hid ha
  have Hb := Lib.hid hb
  have HA := Lib.hid hA
  have HB := Lib.hid hB
  have HN := Lib.hid hN
  clear ha hb hA hB hN W0 W1 H0 H1
  go_enter Tryz.func48, Tryz.ntmps48
  go_wp2_with (go_at_call 59; refine (HA.out _ HN.out).mono ?_; rintro e w1 ⟨rfl, hb1⟩; refine Hid.out ?_)
  refine Lib.hid ?_
  go_wp2_with (go_at_call 59; refine (HB.out _ (HN.out.bl hb1)).mono ?_; rintro e w2 ⟨rfl, hb2⟩)
  go_ret
  refine ⟨?_, hb1.trans hb2⟩
  refine congrArg (fun s => Ending.returned (.string s)) ?_
  show a ++ ⟨[32].toArray⟩ ++ b ++ ⟨[10].toArray⟩ = _
  rw [Ha.out, Hb.out, bap, bap, bap]
  simp

def headL (kind tail : List UInt8) (W H : Int) : List UInt8 := (kind ++ [10]) ++ (Lib.itoa W ++ 32 :: (Lib.itoa H ++ 10 :: tail))
set_option maxRecDepth 100000 in
set_option maxHeartbeats 1000000 in
theorem pageHead_any (kind tail : List UInt8) (W H : Int) (W0 : -9223372036854775808 ≤ W) (W1 : W ≤ 9223372036854775807) (H0 : -9223372036854775808 ≤ H) (H1 : H ≤ 9223372036854775807) (w : World) (hN : NumOk w) (hk : kind.length ≤ 100) (ht : tail.length ≤ 100) :
    Calls Tryz.prog 41 #[.string ⟨kind.toArray⟩, .int .i64 W, .int .i64 H, .string ⟨tail.toArray⟩] w fun e w' => ∃ wx, Bl w wx ∧ e = .returned (.slice (some ⟨wx.heap.size, 0, none⟩) (headL kind tail W H).length (grownCap wx (headL kind tail W H).length 0 5)) ∧ w' = Lib.bytesWorld wx 5 ⟨(headL kind tail W H).toArray⟩ := by
  obtain ⟨a, ha⟩ : ∃ r : ByteArray, r = ⟨(Lib.itoa W).toArray⟩ := ⟨_, rfl⟩
  obtain ⟨b, hb⟩ : ∃ r : ByteArray, r = ⟨(Lib.itoa H).toArray⟩ := ⟨_, rfl⟩
  have hA : ∀ w, NumOk w → Calls Tryz.prog 59 #[.int .i64 W] w fun e w' => e = .returned (.string a) ∧ Bl w w' := by
    rw [ha]; exact fun w hN => itoa_any W W0 W1 w hN
  have hB : ∀ w, NumOk w → Calls Tryz.prog 59 #[.int .i64 H] w fun e w' => e = .returned (.string b) ∧ Bl w w' := by
    rw [hb]; exact fun w hN => itoa_any H H0 H1 w hN
  have la : a.size ≤ 21 := by rw [ha, Lib.size_mk]; exact itoa_len W W0 W1
  have lb : b.size ≤ 21 := by rw [hb, Lib.size_mk]; exact itoa_len H H0 H1
  obtain ⟨K, hK⟩ : ∃ r : ByteArray, r = ⟨kind.toArray⟩ := ⟨_, rfl⟩
  obtain ⟨T, hT⟩ : ∃ r : ByteArray, r = ⟨tail.toArray⟩ := ⟨_, rfl⟩
  have lk : K.size ≤ 100 := by rw [hK, Lib.size_mk]; exact hk
  have lt : T.size ≤ 100 := by rw [hT, Lib.size_mk]; exact ht
  rw [← hK, ← hT]
  have HL : Hid (K ++ ⟨#[10]⟩ ++ a ++ ⟨#[32]⟩ ++ b ++ ⟨#[10]⟩ ++ T = ⟨(headL kind tail W H).toArray⟩) := Lib.hid (by
    rw [ha, hb, hK, hT]
    show (⟨kind.toArray⟩ : ByteArray) ++ ⟨[10].toArray⟩ ++ _ ++ ⟨[32].toArray⟩ ++ _ ++ ⟨[10].toArray⟩ ++ _ = _
    rw [bap, bap, bap, bap, bap, bap]
    unfold headL
    simp)
  have HA := Lib.hid hA
  have HB := Lib.hid hB
  have HN := Lib.hid hN
  clear ha hb hA hB hN W0 W1 H0 H1 hK hT
  go_enter Tryz.func41, Tryz.ntmps41
  go_wp2_with (go_at_call 59; refine (HA.out _ HN.out).mono ?_; rintro e w1 ⟨rfl, hb1⟩; refine Hid.out ?_)
  refine Lib.hid ?_
  go_wp2_with (go_at_call 59; refine (HB.out _ (HN.out.bl hb1)).mono ?_; rintro e w2 ⟨rfl, hb2⟩)
  rw [HL.out, Lib.run_convert_string_bytes w2 9 22 5 ⟨(headL kind tail W H).toArray⟩ Tryz.underlying9 Tryz.underlying22 Tryz.underlying5, Lib.size_mk]
  obtain ⟨w3, hw3⟩ : ∃ x, x = Lib.bytesWorld w2 5 ⟨(headL kind tail W H).toArray⟩ := ⟨_, rfl⟩
  obtain ⟨cp, hcp⟩ : ∃ x, x = grownCap w2 (headL kind tail W H).length 0 5 := ⟨_, rfl⟩
  rw [← hw3, ← hcp]
  have Hw3 := Lib.hid hw3
  have Hcp := Lib.hid hcp
  clear hw3 hcp
  go_wp2_with fail
  go_ret
  exact ⟨w2, hb1.trans hb2, by rw [← Hcp.out]; rfl, Hw3.out⟩
theorem headL_canon (kind tail rest : List UInt8) (w h : Nat) : headL kind tail (w : Int) (h : Int) ++ rest = canonF kind tail w h rest := by
  unfold headL canonF Lib.itoa
  rw [if_neg (by omega), if_neg (by omega), Int.toNat_natCast, Int.toNat_natCast]
  simp
end Go.Proofs.YtdbnacjdinolcaaGreatDoor


/-! bedref2.head: the beginning of a page as bytes is read. -/
namespace Go.Proofs
open Go.Shelf
def Tryz.laysCutPre_ren : Go.Shelf.Ren := ⟨fun | 103 => 73 | 210 => 114 | 206 => 158 | n => n, fun | 9 => 9 | 4 => 4 | 24 => 119 | 3 => 3 | n => n, fun | n => n⟩
theorem Tryz.laysCutPre : Go.Proofs.Lays.n103 Tryz.prog Tryz.laysCutPre_ren := {
  mixed := by kernel_rfl
  f103 := Tryz.func73.trans (congrArg some (by kernel_rfl))
  f206 := Tryz.func158.trans (congrArg some (by kernel_rfl))
  f210 := Tryz.func114.trans (congrArg some (by kernel_rfl))
  t3 := Tryz.underlying3
  a3 := Tryz.isAgg3
  z3 := Tryz.sizeOf3
  v3 := Tryz.zeroValue3
  t4 := Tryz.underlying4
  a4 := Tryz.isAgg4
  z4 := Tryz.sizeOf4
  v4 := Tryz.zeroValue4
  t9 := Tryz.underlying9
  a9 := Tryz.isAgg9
  z9 := Tryz.sizeOf9
  v9 := Tryz.zeroValue9
  t24 := Tryz.underlying119
  a24 := Tryz.isAgg119
  z24 := Tryz.sizeOf119
  v24 := Tryz.zeroValue119 }

end Go.Proofs
namespace Go.Proofs.YtdbnacjdinolcaaGreatDoor
open Go.RowKit Go.Shelf

theorem conv_bytes (w : World) (A : Option Addr) (n c : Nat) (bs : List UInt8) (h : Reads w 1 A n (bs.map encB)) :
    (convert 22 9 (.slice A n c)).run Tryz.prog w = .ok (.string ⟨bs.toArray⟩) w := by
  have hn : bs.length = n := by have := h.1; simpa using this
  subst hn
  cases A with
  | some a =>
    refine run_convert_bytes_back (P := Tryz.prog) w 22 9 5 a c bs Tryz.underlying22 Tryz.underlying5 Tryz.underlying9 (fun j hj => ?_)
    obtain ⟨ad, u, e, hu, hc⟩ := h.at_ hj
    obtain rfl := Option.some.inj e
    rw [hc]
    rw [List.getElem?_map, List.getElem?_eq_getElem hj] at hu
    exact congrArg some (Option.some.inj hu).symm
  | none =>
    have hz : bs = [] := by
      cases bs with
      | nil => rfl
      | cons b l =>
        obtain ⟨ad, e, -⟩ := h.2 (by simp)
        cases e
    subst hz
    show (convert 22 9 (.slice none 0 c)).run Tryz.prog w = _
    rw [run_convert_bytes_string w 22 9 5 none 0 c Tryz.underlying22 Tryz.underlying5 Tryz.underlying9]
    rfl
theorem cutS_any (t : List UInt8) (d : UInt8) (w : World) (hlen : t.length < 4294967281) (hm : CutOk w) :
    Calls Tryz.prog 71 #[.string ⟨t.toArray⟩, .string ⟨#[d]⟩] w fun e w' => e = .returned (.tuple #[.string ⟨(Lib.cut t [d]).1.toArray⟩, .string ⟨(Lib.cut t [d]).2.1.toArray⟩, .bool (Lib.cut t [d]).2.2]) ∧ Bl w w' := by
  obtain ⟨m, hm⟩ := hm
  have h := Any.strings_Cut Tryz.lays145 ⟨t.toArray⟩ ⟨#[d]⟩ m w (by rw [Lib.size_mk]; omega) hm
  refine Calls.mono (R := fun e w' => e = .returned (.tuple #[.string ⟨(Lib.cut t [d]).1.toArray⟩, .string ⟨(Lib.cut t [d]).2.1.toArray⟩, .bool (Lib.cut t [d]).2.2]) ∧ ∃ n, w' = w.drewN n) h ?_
  rintro e w' ⟨rfl, n, rfl⟩
  exact ⟨rfl, bl_drewN w n⟩
theorem cutPre_any (t p : List UInt8) (w : World) :
    Calls Tryz.prog 73 #[.string ⟨t.toArray⟩, .string ⟨p.toArray⟩] w fun e w' => e = .returned (.tuple #[.string ⟨(Lib.trimPrefix t p).toArray⟩, .bool (Lib.hasPrefix t p)]) ∧ w' = w :=
  Any.strings_CutPrefix Tryz.laysCutPre ⟨t.toArray⟩ ⟨p.toArray⟩ w
theorem cut_le (s : List UInt8) (c : UInt8) : (Lib.cut s [c]).1.length ≤ s.length ∧ (Lib.cut s [c]).2.1.length ≤ s.length := by
  by_cases h : c ∈ s
  · obtain ⟨p, q, rfl, hp⟩ := List.eq_append_cons_of_mem h
    rw [cut_at hp]
    simp only [List.length_append, List.length_cons]
    omega
  · rw [cut_no h]
    exact ⟨Nat.le_refl _, Nat.zero_le _⟩

/-- What bedref2.head answers. -/
def HeadR (kind tail bs : List UInt8) (w : World) (e : Ending) (w' : World) : Prop :=
  ∃ (v1 v2 : Int) (b : Bool) (r : List UInt8) (wx : World), e = .returned (.tuple #[.int .i64 v1, .int .i64 v2, .slice (some ⟨wx.heap.size, 0, none⟩) r.length (grownCap wx r.length 0 5), .bool b]) ∧
    b = (headRv kind tail bs).isSome ∧ (∀ W H rest, headRv kind tail bs = some (W, H, rest) → v1 = (W : Nat) ∧ v2 = (H : Nat) ∧ r = rest) ∧ Bl w wx ∧ w' = Lib.bytesWorld wx 5 ⟨r.toArray⟩
theorem headR_val {kind tail bs a d s4 : List UInt8} {p1 x y z b1 b2 : Bool} {v1 v2 : Int} (HE : headRv kind tail bs = if p1 = true ∧ x = true ∧ y = true ∧ z = true then (match numR a, numR d with
    | some w, some h => some (w, h, s4)
    | _, _ => none) else none) (q1 : (b1 && decide (0 < v1)) = (numR a).isSome) (g1 : ∀ n : Nat, numR a = some n → v1 = n) (q2 : (b2 && decide (0 < v2)) = (numR d).isSome) (g2 : ∀ n : Nat, numR d = some n → v2 = n) :
    (p1 && (x && (y && (z && (b1 && (b2 && (decide (0 < v1) && decide (0 < v2)))))))) = (headRv kind tail bs).isSome ∧ (∀ W H rest, headRv kind tail bs = some (W, H, rest) → v1 = (W : Nat) ∧ v2 = (H : Nat) ∧ s4 = rest) := by
  rw [HE]
  by_cases c : p1 = true ∧ x = true ∧ y = true ∧ z = true
  · rw [if_pos c]
    obtain ⟨rfl, rfl, rfl, rfl⟩ := c
    cases ea : numR a with
    | none =>
      rw [ea] at q1
      refine ⟨?_, fun W H rest h => by cases h⟩
      show (true && (true && (true && (true && (b1 && (b2 && (decide (0 < v1) && decide (0 < v2)))))))) = false
      have q1' : (b1 && decide (0 < v1)) = false := q1
      cases b1
      · rfl
      · have : decide (0 < v1) = false := q1'
        rw [this]
        cases b2 <;> rfl
    | some n1 =>
      rw [ea] at q1
      have q1' : (b1 && decide (0 < v1)) = true := q1
      rw [Bool.and_eq_true] at q1'
      cases ed : numR d with
      | none =>
        rw [ed] at q2
        refine ⟨?_, fun W H rest h => by cases h⟩
        have q2' : (b2 && decide (0 < v2)) = false := q2
        show (true && (true && (true && (true && (b1 && (b2 && (decide (0 < v1) && decide (0 < v2)))))))) = false
        rw [q1'.1, q1'.2]
        exact q2'
      | some n2 =>
        rw [ed] at q2
        have q2' : (b2 && decide (0 < v2)) = true := q2
        rw [Bool.and_eq_true] at q2'
        refine ⟨?_, fun W H rest h => ?_⟩
        · rw [q1'.1, q1'.2, q2'.1, q2'.2]; rfl
        · obtain ⟨rfl, h2⟩ := Prod.mk.inj (Option.some.inj h)
          obtain ⟨rfl, rfl⟩ := Prod.mk.inj h2
          exact ⟨g1 _ ea, g2 _ ed, rfl⟩
  · rw [if_neg c]
    refine ⟨?_, fun W H rest h => by cases h⟩
    cases p1
    · rfl
    cases x
    · rfl
    cases y
    · rfl
    cases z
    · rfl
    exact absurd ⟨rfl, rfl, rfl, rfl⟩ c
theorem six_of (p x y z a b : Bool) : p = false ∨ (p = true ∧ x = false) ∨ (p = true ∧ x = true ∧ y = false) ∨ (p = true ∧ x = true ∧ y = true ∧ z = false) ∨ (p = true ∧ x = true ∧ y = true ∧ z = true ∧ a = false) ∨ (p = true ∧ x = true ∧ y = true ∧ z = true ∧ a = true ∧ b = false) ∨ (p = true ∧ x = true ∧ y = true ∧ z = true ∧ a = true ∧ b = true) := by
  cases p <;> cases x <;> cases y <;> cases z <;> cases a <;> cases b <;> decide

set_option maxRecDepth 100000 in
set_option maxHeartbeats 2000000 in
theorem headR_any (kind tail bs : List UInt8) (A : Option Addr) (n c : Nat) (w : World) (hA : Reads w 1 A n (bs.map encB)) (hN : NumOk w) (hC : CutOk w) (hl : bs.length ≤ 1048606) (hk : kind.length ≤ 100) :
    Calls Tryz.prog 54 #[.slice A n c, .string ⟨kind.toArray⟩, .string ⟨tail.toArray⟩] w (HeadR kind tail bs w) := by
  have hcv := conv_bytes w A n c bs hA
  obtain ⟨kn, hkn⟩ : ∃ x, x = kind ++ [10] := ⟨_, rfl⟩
  obtain ⟨s1, hs1⟩ : ∃ x, x = Lib.trimPrefix bs kn := ⟨_, rfl⟩
  obtain ⟨p1, hp1⟩ : ∃ x, x = Lib.hasPrefix bs kn := ⟨_, rfl⟩
  obtain ⟨a, ha⟩ : ∃ x, x = (Lib.cut s1 [32]).1 := ⟨_, rfl⟩
  obtain ⟨s2, hs2⟩ : ∃ x, x = (Lib.cut s1 [32]).2.1 := ⟨_, rfl⟩
  obtain ⟨x, hx⟩ : ∃ x, x = (Lib.cut s1 [32]).2.2 := ⟨_, rfl⟩
  obtain ⟨d, hd⟩ : ∃ x, x = (Lib.cut s2 [10]).1 := ⟨_, rfl⟩
  obtain ⟨s3, hs3⟩ : ∃ x, x = (Lib.cut s2 [10]).2.1 := ⟨_, rfl⟩
  obtain ⟨y, hy⟩ : ∃ x, x = (Lib.cut s2 [10]).2.2 := ⟨_, rfl⟩
  obtain ⟨s4, hs4⟩ : ∃ x, x = Lib.trimPrefix s3 tail := ⟨_, rfl⟩
  obtain ⟨z, hz⟩ : ∃ x, x = Lib.hasPrefix s3 tail := ⟨_, rfl⟩
  have l1 : s1.length ≤ 1048606 := by have := Lib.trimPrefix_le bs kn; rw [hs1]; omega
  have l2 : s2.length ≤ 1048606 := by have := (cut_le s1 32).2; rw [hs2]; omega
  have la : a.length ≤ 1048606 := by have := (cut_le s1 32).1; rw [ha]; omega
  have ld : d.length ≤ 1048606 := by have := (cut_le s2 10).1; rw [hd]; omega
  have C1 := Lib.hid (fun w => show Calls Tryz.prog 73 #[.string ⟨bs.toArray⟩, .string (⟨kind.toArray⟩ ++ ⟨#[10]⟩)] w (fun e w' => e = .returned (.tuple #[.string ⟨s1.toArray⟩, .bool p1]) ∧ w' = w) from by
    rw [show (⟨kind.toArray⟩ : ByteArray) ++ ⟨#[10]⟩ = ⟨kn.toArray⟩ from (bap kind [10]).trans (by rw [hkn]), hs1, hp1]; exact cutPre_any bs kn w)
  have C2 := Lib.hid (fun w (h : CutOk w) => show Calls Tryz.prog 71 #[.string ⟨s1.toArray⟩, .string ⟨#[32]⟩] w (fun e w' => e = .returned (.tuple #[.string ⟨a.toArray⟩, .string ⟨s2.toArray⟩, .bool x]) ∧ Bl w w') from by
    rw [ha, hs2, hx]; exact cutS_any s1 32 w (by omega) h)
  have C3 := Lib.hid (fun w (h : CutOk w) => show Calls Tryz.prog 71 #[.string ⟨s2.toArray⟩, .string ⟨#[10]⟩] w (fun e w' => e = .returned (.tuple #[.string ⟨d.toArray⟩, .string ⟨s3.toArray⟩, .bool y]) ∧ Bl w w') from by
    rw [hd, hs3, hy]; exact cutS_any s2 10 w (by omega) h)
  have C4 := Lib.hid (fun w => show Calls Tryz.prog 73 #[.string ⟨s3.toArray⟩, .string ⟨tail.toArray⟩] w (fun e w' => e = .returned (.tuple #[.string ⟨s4.toArray⟩, .bool z]) ∧ w' = w) from by
    rw [hs4, hz]; exact cutPre_any s3 tail w)
  have N1 := Lib.hid (fun w (h : NumOk w) => numberR_any ⟨a.toArray⟩ w (by rw [Lib.size_mk]; omega) h)
  have N2 := Lib.hid (fun w (h : NumOk w) => numberR_any ⟨d.toArray⟩ w (by rw [Lib.size_mk]; omega) h)
  have HE : Hid (headRv kind tail bs = if p1 = true ∧ x = true ∧ y = true ∧ z = true then (match numR a, numR d with
    | some w, some h => some (w, h, s4)
    | _, _ => none) else none) := Lib.hid (by
      subst hz hs4 hy hs3 hd hx hs2 ha hp1 hs1 hkn
      rfl)
  obtain ⟨KB, hKB⟩ : ∃ r : ByteArray, r = ⟨kind.toArray⟩ := ⟨_, rfl⟩
  have lk : KB.size ≤ 100 := by rw [hKB, Lib.size_mk]; exact hk
  rw [← hKB] at C1 ⊢
  have HN := Lib.hid hN
  have HC := Lib.hid hC
  clear hKB
  clear hA hN hC hkn hs1 hp1 ha hs2 hx hd hs3 hy hs4 hz l1 l2 la ld hl hk
  go_enter Tryz.func54, Tryz.ntmps54
  go_wp2_with (go_at_call 73; refine (C1.out _).mono ?_; rintro e w1 ⟨rfl, rfl⟩; refine Hid.out ?_)
  refine Lib.hid ?_
  go_wp2_with (go_at_call 71; refine (C2.out _ HC.out).mono ?_; rintro e w2 ⟨rfl, hb2⟩; refine Hid.out ?_)
  refine Lib.hid ?_
  go_wp2_with (go_at_call 71; refine (C3.out _ (HC.out.bl hb2)).mono ?_; rintro e w3 ⟨rfl, hb3⟩; refine Hid.out ?_)
  refine Lib.hid ?_
  go_wp2_with (go_at_call 73; refine (C4.out _).mono ?_; rintro e w4 ⟨rfl, rfl⟩; refine Hid.out ?_)
  refine Lib.hid ?_
  go_wp2_with (go_at_call 100; refine (N1.out _ (HN.out.bl (hb2.trans hb3))).mono ?_; rintro e w5 ⟨v1, b1, rfl, q1, g1, hb5⟩; refine Hid.out ?_)
  refine Lib.hid ?_
  have Q1 := Lib.hid q1
  have G1 := Lib.hid g1
  clear q1 g1
  go_wp2_with (go_at_call 100; refine (N2.out _ (HN.out.bl (Bl.trans (hb2.trans hb3) hb5))).mono ?_; rintro e w6 ⟨v2, b2, rfl, q2, g2, hb6⟩; refine Hid.out ?_)
  refine Lib.hid ?_
  have Q2 := Lib.hid q2
  have G2 := Lib.hid g2
  clear q2 g2
  go_wp2_with fail
  rw [Lib.run_convert_string_bytes w6 9 22 5 ⟨s4.toArray⟩ Tryz.underlying9 Tryz.underlying22 Tryz.underlying5, Lib.size_mk]
  obtain ⟨w7, hw7⟩ : ∃ x, x = Lib.bytesWorld w6 5 ⟨s4.toArray⟩ := ⟨_, rfl⟩
  obtain ⟨cp, hcp⟩ : ∃ x, x = grownCap w6 s4.length 0 5 := ⟨_, rfl⟩
  rw [← hw7, ← hcp]
  have Hw7 := Lib.hid hw7
  have Hcp := Lib.hid hcp
  clear hw7 hcp
  have HB6 := Lib.hid (Bl.trans (Bl.trans (hb2.trans hb3) hb5) hb6)
  have FV := Lib.hid (headR_val HE.out Q1.out G1.out Q2.out G2.out)
  rcases six_of p1 x y z b1 b2 with rfl | ⟨rfl, rfl⟩ | ⟨rfl, rfl, rfl⟩ | ⟨rfl, rfl, rfl, rfl⟩ | ⟨rfl, rfl, rfl, rfl, rfl⟩ | ⟨rfl, rfl, rfl, rfl, rfl, rfl⟩ | ⟨rfl, rfl, rfl, rfl, rfl, rfl⟩ <;> by_cases hv1 : 0 < v1 <;> by_cases hv2 : 0 < v2
  all_goals
    go_wp2_with fail
    all_goals
      refine bodyPost_ret (v := .tuple #[.int .i64 v1, .int .i64 v2, .slice (some ⟨w6.heap.size, 0, none⟩) s4.length cp, .bool (headRv kind tail bs).isSome]) (by rw [← FV.out.1]; simp [results, Tryz.results54, go_sem, hv1, hv2]) rfl ⟨v1, v2, _, s4, w6, by rw [← Hcp.out], rfl, FV.out.2, HB6.out, Hw7.out⟩
end Go.Proofs.YtdbnacjdinolcaaGreatDoor
