/- strings.Join of texts with a 0 between each two. -/
import Derived.Test.YtkipcobpnecmhaaGreatDoorMClaimTopCodes11
import Derived.Test.YtkipcobpnecmhaaGreatDoorMClaimTopCodes1
import Derived.Test.YtkipcobpnecmhaaGreatDoorMClaimTopCodes13
import Derived.Test.YtkipcobpnecmhaaGreatDoorMClaimTopCodes0
import Derived.Test.YtkipcobpnecmhaaGreatDoorMClaimTopCodes10
import Derived.Shelf.Strings.Split
import Derived.Lib.Split
import Derived.Lib.CountLaws
import Derived.Lib.IndexMore
import Derived.Lib.Strings

namespace Go.Proofs.YtkipcobpnecmhaaGreatDoor
open Go.RowKit Go.Shelf

def joinZ : List (List UInt8) → List UInt8
  | [] => []
  | [x] => x
  | x :: y :: l => x ++ 48 :: joinZ (y :: l)
theorem joinZ_append : ∀ (a : List (List UInt8)) (x : List UInt8), a ≠ [] → joinZ (a ++ [x]) = joinZ a ++ 48 :: x
  | [], _, h => absurd rfl h
  | [a], x, _ => rfl
  | a :: b :: l, x, _ => by
    have ih := joinZ_append (b :: l) x (by simp)
    show a ++ 48 :: joinZ (b :: l ++ [x]) = (a ++ 48 :: joinZ (b :: l)) ++ 48 :: x
    rw [ih]
    simp
theorem joinZ_take : ∀ (b c : List (List UInt8)), (joinZ b).length ≤ (joinZ (b ++ c)).length
  | [], c => Nat.zero_le _
  | [x], [] => Nat.le_refl _
  | [x], y :: c => by
    show x.length ≤ (x ++ 48 :: joinZ (y :: c)).length
    rw [List.length_append]
    omega
  | x :: y :: b, c => by
    have ih := joinZ_take (y :: b) c
    show (x ++ 48 :: joinZ (y :: b)).length ≤ (x ++ 48 :: joinZ (y :: b ++ c)).length
    rw [List.length_append, List.length_append, List.length_cons, List.length_cons]
    omega
def lensZ : List (List UInt8) → Nat
  | [] => 0
  | x :: l => x.length + lensZ l
theorem lensZ_append (a b : List (List UInt8)) : lensZ (a ++ b) = lensZ a + lensZ b := by
  induction a with
  | nil => simp [lensZ]
  | cons x a ih => show x.length + lensZ (a ++ b) = x.length + lensZ a + lensZ b; rw [ih]; omega
theorem lensZ_succ {ts : List (List UInt8)} {k : Nat} {x : List UInt8} (h : ts[k]? = some x) : lensZ (ts.take (k + 1)) = lensZ (ts.take k) + x.length := by
  rw [List.take_add_one, h, lensZ_append]
  rfl
theorem lensZ_le (ts : List (List UInt8)) (k : Nat) : lensZ (ts.take k) ≤ lensZ ts := by
  conv => rhs; rw [← List.take_append_drop k ts]
  rw [lensZ_append]
  omega
theorem joinZ_len : ∀ ts : List (List UInt8), (joinZ ts).length = lensZ ts + (ts.length - 1)
  | [] => rfl
  | [x] => by show x.length = x.length + 0 + 0; omega
  | x :: y :: l => by
    have ih := joinZ_len (y :: l)
    show (x ++ 48 :: joinZ (y :: l)).length = x.length + lensZ (y :: l) + _
    rw [List.length_append, List.length_cons, ih]
    simp only [List.length_cons]
    omega
theorem joinZ_take1 {ts : List (List UInt8)} {k : Nat} {x : List UInt8} (hk : 1 ≤ k) (h : ts[k]? = some x) : joinZ (ts.take (k + 1)) = joinZ (ts.take k) ++ [48] ++ x := by
  have hlt := (List.getElem?_eq_some_iff.1 h).1
  rw [List.take_add_one, h]
  show joinZ (ts.take k ++ [x]) = _
  rw [joinZ_append _ _ (by intro e; have := congrArg List.length e; rw [List.length_take, List.length_nil] at this; omega)]
  simp

set_option maxRecDepth 100000 in
set_option maxHeartbeats 4000000 in
theorem joinZ_any (A : Option Addr) (c : Nat) (ts : List (List UInt8)) (w : World) (hx : Reads w 1 A ts.length (strCells' ts)) (hlen : (joinZ ts).length ≤ 1000) (hn : ts.length ≤ 1000) (hc : ts.length ≤ c) :
    Calls Tryz.prog 33 #[.slice A ts.length c, .string ⟨#[48]⟩] w fun e w' => e = .returned (.string ⟨(joinZ ts).toArray⟩) ∧ Bl w w' := by
  have HX := Lib.hid hx
  have hjl := joinZ_len ts
  by_cases h0 : ts.length = 0
  · obtain rfl := List.eq_nil_of_length_eq_zero h0
    clear hx
    go_enter Tryz.func33, Tryz.ntmps33
    go_wp2_with fail
    try simp only [Exit.inBlock, Exit.then]
    go_ret
    exact ⟨rfl, Bl.refl _⟩
  · by_cases h1 : ts.length = 1
    · obtain ⟨x, rfl⟩ : ∃ x, ts = [x] := by
        match ts, h1 with
        | [x], _ => exact ⟨x, rfl⟩
      obtain ⟨ad, rfl, c0⟩ := str_at hx (i := 0) rfl
      rw [Addr.add_zero'] at c0
      clear hx
      go_enter Tryz.func33, Tryz.ntmps33
      go_wp2_with fail
      try simp only [Exit.inBlock, Exit.then]
      go_ret
      exact ⟨rfl, Bl.refl _⟩
    · obtain ⟨n, hnn⟩ : ∃ n, ts.length = n + 2 := ⟨ts.length - 2, by omega⟩
      have hne0 : ((ts.length : Int) == 0) = false := beq_eq_false_iff_ne.2 (by omega)
      have hne1 : ((ts.length : Int) == 1) = false := beq_eq_false_iff_ne.2 (by omega)
      have hsub : (ts.length : Int) - 1 = ((n + 1 : Nat) : Int) := by omega
      obtain ⟨m, hm⟩ : ∃ m, m = n + 1 := ⟨_, rfl⟩
      rw [← hm] at hsub
      have hm0 : ¬ (m = 0) := by omega
      have hdv : ¬ ((9223372036854775807 : Int) / (m : Int) ≤ 1) := by
        have e : (9223372036854775807 : Int) / (m : Int) = ((9223372036854775807 / m : Nat) : Int) := IntWalk.up_div (x := 9223372036854775807) rfl rfl
        rw [e]
        have : 2 ≤ 9223372036854775807 / m := by rw [Nat.le_div_iff_mul_le (by omega)]; omega
        omega
      have hln : lensZ ts + m ≤ 1000 := by omega
      have HN := Lib.hid hnn; have HM := Lib.hid hm; have HJ := Lib.hid hjl; have HL := Lib.hid hlen
      obtain ⟨ad, hA, -⟩ := str_at hx (i := 0) (List.getElem?_eq_getElem (by omega))
      subst hA
      have hc2 : 2 ≤ c := by omega
      clear hx hnn hm hjl h0 h1 hlen hc
      go_enter Tryz.func33, Tryz.ntmps33
      go_wp2_with fail
      go_loopw [5, 41] (fun u v wr => ∃ k : Nat, k ≤ ts.length ∧ v = .int .i64 k ∧ u = .int .i64 ((m + lensZ (ts.take k) : Nat) : Int) ∧ Bl w wr) (fun _ v _ => ts.length - (intOf v).toNat)
      case atStart => exact ⟨0, Nat.zero_le _, rfl, rfl, Bl.refl _⟩
      case round =>
        obtain ⟨k, hk, rfl, rfl, hbr⟩ := hrel
        by_cases hkn : k < ts.length
        · have hg : ts[k]? = some ts[k] := List.getElem?_eq_getElem hkn
          obtain ⟨x, hxx⟩ : ∃ x, x = ts[k] := ⟨_, rfl⟩
          rw [← hxx] at hg
          obtain ⟨ad', hA, c0⟩ := str_at (HX.out.bl hbr) hg
          injection hA with hA
          subst hA
          have hst := lensZ_succ hg
          have hle := lensZ_le ts (k + 1)
          obtain ⟨u, hu⟩ : ∃ u, u = m + lensZ (ts.take k) := ⟨_, rfl⟩
          rw [← hu]
          have hu2 : u + x.length = m + lensZ (ts.take (k + 1)) := by omega
          have hu3 : u + x.length ≤ 1000 := by omega
          have hsz : (⟨x.toArray⟩ : ByteArray).size = x.length := Lib.size_mk x
          have HU := Lib.hid hu2
          clear hg hxx hst hle hu hu2
          go_wp2_with fail
          exact ⟨⟨k + 1, hkn, by go_num, by rw [← HU.out] <;> simp, hbr⟩, by simp [intOf] <;> omega⟩
        · obtain rfl : k = ts.length := by omega
          rw [List.take_length]
          have hgr := growB_any wr.heap.size (m + lensZ ts) wr rfl (by omega)
          have Hgr := Lib.hid hgr
          clear hgr
          go_wp2_with fail
          refine Hgr.out.mono ?_
          rintro e w1 ⟨rfl, hbu, hb1⟩
          obtain ⟨B, hB⟩ : ∃ B, B = wr.heap.size := ⟨_, rfl⟩
          rw [← hB] at hbu ⊢
          have HB := Lib.hid hB; have HBu := Lib.hid hbu
          obtain ⟨x0, hx0⟩ : ∃ x0, ts[0]? = some x0 := ⟨_, List.getElem?_eq_getElem (by have := HN.out; omega)⟩
          obtain ⟨ad', hA, c0⟩ := str_at (HX.out.bl (hbr.trans hb1)) hx0
          injection hA with hA
          subst hA
          rw [Addr.add_zero'] at c0
          have hj1 : joinZ (ts.take 1) = x0 := by rw [List.take_add_one, hx0]; rfl
          have hx0l : x0.length ≤ 1000 := by
            have h1 := lensZ_le ts 1
            rw [lensZ_succ hx0] at h1
            omega
          have hBw1 : B ≤ w1.heap.size := by rw [hB]; exact hb1.le
          have hws := writeString_any B [] x0 w1 hbu (by simp; omega) hBw1
          rw [List.nil_append] at hws
          have Hws := Lib.hid hws; have HJ1 := Lib.hid hj1
          clear hbu hB hx0 hj1 hws Hgr
          go_wp2_with fail
          refine Hws.out.mono ?_
          rintro e w2 ⟨rfl, hbu2, hbe2⟩
          have hb2 := Bl.trans' hb1 HB.out.symm hbe2
          have HBu2 := Lib.hid hbu2
          clear hbu2 Hws hbe2
          have hls2 : (ts.length : Int) - 1 = (m : Int) := hsub
          go_wp2_with fail
          go_loopw [65] (fun v wq => ∃ k : Nat, k ≤ m ∧ v = .int .i64 k ∧ Hid (Bui B (joinZ (ts.take (k + 1))) wq) ∧ Bl wr wq ∧ B ≤ wq.heap.size) (fun v _ => m - (intOf v).toNat)
          case atStart => exact ⟨0, Nat.zero_le _, rfl, (by rw [Nat.zero_add, HJ1.out]; exact HBu2), hb2, (by have := hb2.le; have := HB.out; omega)⟩
          case round =>
            rename World => wq
            obtain ⟨k, hk, rfl, hbq, hbw, hBq⟩ := hrel
            by_cases hkm : k < m
            · obtain ⟨x, hxk⟩ : ∃ x, ts[k + 1]? = some x := ⟨_, List.getElem?_eq_getElem (by have := HN.out; have := HM.out; omega)⟩
              obtain ⟨ad', hA, c0⟩ := str_at (HX.out.bl (hbr.trans hbw)) hxk
              injection hA with hA
              subst hA
              have hjt := joinZ_take1 (show 1 ≤ k + 1 by omega) hxk
              have hjl2 : (joinZ (ts.take (k + 1))).length + 1 + x.length ≤ 1000 := by
                have h1 := joinZ_take (ts.take (k + 1 + 1)) (ts.drop (k + 1 + 1))
                rw [List.take_append_drop, hjt, List.length_append, List.length_append, List.length_singleton] at h1
                have := HL.out
                omega
              obtain ⟨j, hj⟩ : ∃ j, j = joinZ (ts.take (k + 1)) := ⟨_, rfl⟩
              rw [← hj] at hjt hjl2 hbq
              have Hjt := Lib.hid hjt
              have c0' : wq.cell? ⟨ad.block, ad.off + 1 + k, none⟩ = some (.string ⟨x.toArray⟩) := by
                rw [Addr.add_succ'] at c0
                rw [show ad.off + 1 + k = ad.off + (k + 1) by omega]
                exact c0
              have Hw1 := Lib.hid (writeString_any B j [48] wq hbq.out (by simp; omega) hBq)
              have HB2 := Lib.hid hbw
              clear c0 hjt hxk hj hbq hbw
              go_wp2_with fail
              refine Hw1.out.mono ?_
              rintro e w3 ⟨rfl, hbu3, hbe3⟩
              have hb3 := Bl.trans' HB2.out HB.out.symm hbe3
              have hBw3 : B ≤ w3.heap.size := Nat.le_trans hBq hbe3.size
              have Hw2 := Lib.hid (writeString_any B (j ++ [48]) x w3 hbu3 (by simp; omega) hBw3)
              have HB3 := Lib.hid hb3
              clear Hw1 hbu3 hbe3 hb3 c0'
              go_wp2_with fail
              refine Hw2.out.mono ?_
              rintro e w4 ⟨rfl, hbu4, hbe4⟩
              rw [← Hjt.out] at hbu4
              have HB4 := Lib.hid (Bl.trans' HB3.out HB.out.symm hbe4)
              have HBu4 := Lib.hid hbu4
              have hBw4 : B ≤ w4.heap.size := Nat.le_trans hBw3 hbe4.size
              clear Hw2 hbu4 hbe4
              go_wp2_with fail
              exact ⟨⟨k + 1, hkm, by go_num, HBu4, HB4.out, hBw4⟩, by simp [intOf] <;> omega⟩
            · obtain rfl : k = m := by omega
              have hall : joinZ (ts.take (k + 1)) = joinZ ts := by rw [List.take_of_length_le (by have := HN.out; have := HM.out; omega)]
              have hbq2 := hbq.out
              rw [hall] at hbq2
              have Hst := Lib.hid (builderString_any B (joinZ ts) wq hbq2 hBq)
              have HB2 := Lib.hid hbw
              clear hbq hbq2 hall hbw
              go_wp2_with fail
              refine Hst.out.mono ?_
              rintro e w5 ⟨rfl, hbe5⟩
              have HB5 := Lib.hid (Bl.trans' HB2.out HB.out.symm hbe5)
              clear Hst hbe5
              go_wp2_with fail
              go_ret
              exact ⟨rfl, hbr.trans HB5.out⟩

end Go.Proofs.YtkipcobpnecmhaaGreatDoor
