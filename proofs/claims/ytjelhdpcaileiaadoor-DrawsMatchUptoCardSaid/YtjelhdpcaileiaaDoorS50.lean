/- The law DrawsMatch answers true. -/
import Derived.Test.YtjelhdpcaileiaaDoorS45
import Derived.Test.YtjelhdpcaileiaaDoorS47
import Derived.Test.YtjelhdpcaileiaaDoorS49
import Derived.Test.YtjelhdpcaileiaaDoorS1
import Derived.Test.YtjelhdpcaileiaaDoorS9

namespace Go.Proofs.YtjelhdpcaileiaaDoor
open Go.RowKit

def is01 (b : UInt8) : Bool := b == 48 || b == 49
def is01To (m : List UInt8) (i : Nat) : Bool := (m.take i).all is01
theorem is01To_succ {m : List UInt8} {i : Nat} {b : UInt8} (h : m[i]? = some b) : is01To m (i + 1) = (is01To m i && is01 b) := by
  unfold is01To
  rw [List.take_add_one, h, List.all_append]
  simp
theorem is01_made (m : List UInt8) : is01To m m.length = madeOf m bits01 := by
  unfold is01To madeOf
  rw [List.take_length]
  congr 1
  funext b
  show (b == 48 || b == 49) = [48, 49].contains b
  rw [Bool.eq_iff_iff]
  simp
def drawHead (m : List UInt8) (u h q : Int) : Int := firstNZ [whenI m.isEmpty 9, whenI (!madeOf m bits01) 2, whenI (!drawRange u h q) 3]
theorem drawErr_head (m : List UInt8) (u h q : Int) : drawErr m u h q = if drawHead m u h q = 0 then sizeErr (2 * q + u * m.length) h else drawHead m u h q := by
  unfold drawErr drawHead
  cases m with
  | nil => rfl
  | cons b t =>
    rw [if_neg (by simp)]
    cases h1 : madeOf (b :: t) bits01
    · rfl
    · rw [if_neg (by decide)]
      cases h2 : drawRange u h q
      · rfl
      · rw [if_neg (by decide), if_pos (by rfl)]
theorem drawHead_zero {m : List UInt8} {u h q : Int} (hz : drawHead m u h q = 0) : drawRange u h q = true := by
  unfold drawHead at hz
  cases m with
  | nil => exact absurd (show (9 : Int) = 0 from hz) (by decide)
  | cons b t =>
    cases h1 : madeOf (b :: t) bits01
    · rw [h1] at hz
      exact absurd (show (2 : Int) = 0 from hz) (by decide)
    · rw [h1] at hz
      cases h2 : drawRange u h q
      · rw [h2] at hz
        exact absurd (show (3 : Int) = 0 from hz) (by decide)
      · rfl
theorem draw_zero {m : List UInt8} {u h q : Int} (hz : drawErr m u h q = 0) : drawHead m u h q = 0 ∧ sizeErr (2 * q + u * m.length) h = 0 := by
  rw [drawErr_head] at hz
  by_cases h0 : drawHead m u h q = 0
  · rw [if_pos h0] at hz
    exact ⟨h0, hz⟩
  · rw [if_neg h0] at hz
    exact absurd hz h0
theorem range_nat {u h q : Int} (hr : drawRange u h q = true) : ∃ U H Q : Nat, u = (U : Int) ∧ h = (H : Int) ∧ q = (Q : Int) ∧ (1 ≤ U ∧ U ≤ 8) ∧ (1 ≤ H ∧ H ≤ 4000) ∧ Q ≤ 200 := by
  unfold drawRange at hr
  rw [Bool.and_eq_true, Bool.and_eq_true, inB_true, inB_true, inB_true] at hr
  exact ⟨u.toNat, h.toNat, q.toNat, by omega, by omega, by omega, by omega, by omega, by omega⟩
theorem runsErr_wrap (W H : Int) (an : Nat) (y : Int) : firstNZ [pageErr W H an, whenI (!inB y 0 (wrap64 (H - 1))) 13] = runsErr (pageErr W H an) H y := by
  unfold runsErr
  by_cases h : pageErr W H an = 0
  · have hs : sizeErr W H = 0 := by
      unfold pageErr at h
      by_cases h2 : sizeErr W H = 0
      · exact h2
      · rw [if_neg h2] at h
        exact h
    have hz := sizeErr_zero hs
    rw [show wrap64 (H - 1) = H - 1 by unfold wrap64; omega]
  · show (if pageErr W H an = 0 then _ else _) = (if pageErr W H an = 0 then _ else _)
    rw [if_neg h, if_neg h]
theorem runs_zero {W H : Int} {an : Nat} {y : Int} (hz : runsErr (pageErr W H an) H y = 0) : ∃ Wn Hn yn : Nat, W = (Wn : Int) ∧ H = (Hn : Int) ∧ y = (yn : Int) ∧ an = Wn * Hn ∧ Wn ≤ 4000 ∧ Hn ≤ 4000 ∧ yn < Hn := by
  have h1 := firstNZ_zero hz _ (List.mem_cons_self ..)
  have h2 := firstNZ_zero hz (whenI (!inB y 0 (H - 1)) 13) (by simp)
  have hin : inB y 0 (H - 1) = true := by
    cases h : inB y 0 (H - 1)
    · rw [h] at h2; exact absurd h2 (by decide)
    · rfl
  rw [inB_true] at hin
  have hs : sizeErr W H = 0 := by
    unfold pageErr at h1
    by_cases h2 : sizeErr W H = 0
    · exact h2
    · rw [if_neg h2] at h1
      exact h1
  have hz2 := sizeErr_zero hs
  unfold pageErr at h1
  rw [if_pos hs] at h1
  have han : (an : Int) = W * H := by
    by_cases h : (an : Int) = W * H
    · exact h
    · rw [if_neg h] at h1; exact absurd h1 (by decide)
  obtain ⟨Wn, rfl⟩ := Int.eq_ofNat_of_zero_le (show 0 ≤ W by omega)
  obtain ⟨Hn, rfl⟩ := Int.eq_ofNat_of_zero_le (show 0 ≤ H by omega)
  obtain ⟨yn, rfl⟩ := Int.eq_ofNat_of_zero_le hin.1
  exact ⟨Wn, Hn, yn, rfl, rfl, rfl, by exact_mod_cast han, by omega, by omega, by omega⟩
theorem nat_cells (l : List Nat) : natCells l = (l.map fun (n : Nat) => (n : Int)).map (.int .i64) := by
  unfold natCells
  rw [List.map_map]
  rfl

set_option maxRecDepth 100000 in
set_option maxHeartbeats 8000000 in
theorem lawDraws_any (m : List UInt8) (u h q : Int) (pW pH : Int) (A : Option Addr) (an ac : Nat) (bs : List Bool) (y : Int) (L : Option Addr) (lc : Nat) (zs : List Int) (kind : Int) (w : World) (hm : m.length ≤ 1048576) (hA : Reads w 1 A an (bs.map .bool)) (hac : an ≤ ac)
    (hx : Reads w 1 L zs.length (intCells zs)) (hzn : zs.length ≤ 1048576) (hlc : zs.length ≤ lc) :
    Calls Tryd.prog 5 #[.string ⟨m.toArray⟩, .int .i64 u, .int .i64 h, .int .i64 q, .agg #[.int .i64 pW, .int .i64 pH, .slice A an ac], .int .i64 y, .slice L zs.length lc, .int .i64 kind] w fun e w' => e = .returned (.bool true) ∧ Bl w w' := by
  let w2 := (((((w).alloc (.cells #[.string ⟨m.toArray⟩] 9)).alloc (.cells #[.int .i64 u] 3)).alloc (.cells #[.int .i64 h] 3)).alloc (.cells #[.int .i64 q] 3)).alloc (.cells #[.int .i64 pW, .int .i64 pH, .slice A an ac] 27)
  have w2b : Bl w w2 := (((((Bl.refl w).alloc _).alloc _).alloc _).alloc _).alloc _
  have w21 : Blk w2 (w.heap.size) 9 #[.string ⟨m.toArray⟩] := by
    have h0 := Blk.new (w) 9 #[.string ⟨m.toArray⟩]
    exact ((((h0.alloc _).alloc _).alloc _).alloc _)
  have w22 : Blk w2 (w.heap.size + 1) 3 #[.int .i64 u] := by
    have h0 := Blk.new ((w).alloc (.cells #[.string ⟨m.toArray⟩] 9)) 3 #[.int .i64 u]
    simp only [World.size_alloc] at h0
    exact (((h0.alloc _).alloc _).alloc _)
  have w23 : Blk w2 (w.heap.size + 1 + 1) 3 #[.int .i64 h] := by
    have h0 := Blk.new (((w).alloc (.cells #[.string ⟨m.toArray⟩] 9)).alloc (.cells #[.int .i64 u] 3)) 3 #[.int .i64 h]
    simp only [World.size_alloc] at h0
    exact ((h0.alloc _).alloc _)
  have w24 : Blk w2 (w.heap.size + 1 + 1 + 1) 3 #[.int .i64 q] := by
    have h0 := Blk.new ((((w).alloc (.cells #[.string ⟨m.toArray⟩] 9)).alloc (.cells #[.int .i64 u] 3)).alloc (.cells #[.int .i64 h] 3)) 3 #[.int .i64 q]
    simp only [World.size_alloc] at h0
    exact (h0.alloc _)
  have w25 : Blk w2 (w.heap.size + 1 + 1 + 1 + 1) 27 #[.int .i64 pW, .int .i64 pH, .slice A an ac] := by
    have h0 := Blk.new (((((w).alloc (.cells #[.string ⟨m.toArray⟩] 9)).alloc (.cells #[.int .i64 u] 3)).alloc (.cells #[.int .i64 h] 3)).alloc (.cells #[.int .i64 q] 3)) 27 #[.int .i64 pW, .int .i64 pH, .slice A an ac]
    simp only [World.size_alloc] at h0
    exact h0
  have hsz : (⟨m.toArray⟩ : ByteArray).size = m.length := Lib.size_mk m
  have HA := Lib.hid (hA.bl w2b); have HX := Lib.hid (hx.bl w2b)
  obtain ⟨E, hE0⟩ : ∃ E, E = drawErr m u h q := ⟨_, rfl⟩
  have hdr := draw_any m u h q w2 hm
  unfold DrawRes at hdr
  rw [← hE0] at hdr
  have Hdr := Lib.hid hdr; have HE := Lib.hid hE0
  have k1 := w21.all1; have k2 := w22.all1; have k3 := w23.all1; have k4 := w24.all1
  clear hA hx hE0 hdr
  go_enter Tryd.func5, Tryd.ntmps5
  go_wp2_with fail
  refine Hdr.out.mono ?_
  rintro e w3 ⟨a, b, R, n, d, E', rfl, rfl, hres, hb3'⟩
  rename Int => E
  have hb3 : Bl w2 w3 := hb3'
  have HRes := Lib.hid hres
  clear_value w2
  clear k1 k2 k3 k4 Hdr hres hb3'
  go_upto_region 2 with fail
  obtain ⟨w4, hw4⟩ : ∃ x, x = w3.alloc (.cells #[.int .i64 a, .int .i64 b, .slice R n d] 27) := ⟨_, rfl⟩
  obtain ⟨o, ho⟩ : ∃ x, x = w3.heap.size := ⟨_, rfl⟩
  have bO : Blk w4 o 27 #[.int .i64 a, .int .i64 b, .slice R n d] := by rw [hw4, ho]; exact Blk.new _ _ _
  have hb34 : Bl w3 w4 := by rw [hw4]; exact (Bl.refl _).alloc _
  rw [← hw4, ← ho]
  clear hw4 ho
  have hb4 := hb3.trans hb34
  have k1 := (w21.bl hb4).all1
  go_wp2_with fail
  go_loopw [19, 37] (fun v x wr => ∃ i : Nat, i ≤ m.length ∧ x = .int .i64 i ∧ v = .bool (is01To m i) ∧ wr = w4) (fun _ x _ => m.length - (RowKit.intOf x).toNat)
  case atStart => exact ⟨0, Nat.zero_le _, rfl, rfl, by trivial⟩
  case round =>
    obtain ⟨i, hi, rfl, rfl, rfl⟩ := hrel
    rename World => w4
    by_cases hlt : i < m.length
    · obtain ⟨b1, hb1⟩ : ∃ b, m[i]? = some b := ⟨_, List.getElem?_eq_getElem hlt⟩
      obtain ⟨hx1, hx2⟩ := bytes_at hb1
      have hs := is01To_succ hb1
      obtain ⟨bk, hbk⟩ : ∃ b, b = is01To m i := ⟨_, rfl⟩
      rw [← hbk] at hs ⊢
      have HS := Lib.hid hs
      clear hs hbk hb1
      cases bk with
      | false =>
        go_wp2_with fail
        exact ⟨⟨i + 1, hlt, by go_num, by rw [HS.out]; rfl, by trivial⟩, by simp [RowKit.intOf] <;> omega⟩
      | true =>
        by_cases h48 : b1 = 48
        · have hq : ((b1.toNat : Int) == 48) = true := by rw [h48]; rfl
          have HV := Lib.hid (show (true && is01 b1) = true by rw [h48]; rfl)
          clear h48
          go_wp2_with fail
          exact ⟨⟨i + 1, hlt, by go_num, by rw [HS.out, HV.out], by trivial⟩, by simp [RowKit.intOf] <;> omega⟩
        · have hq : ((b1.toNat : Int) == 48) = false := by
            have : b1.toNat ≠ 48 := fun h => h48 (UInt8.toNat_inj.1 h)
            simp; omega
          by_cases h49 : b1 = 49
          · have hq2 : ((b1.toNat : Int) == 49) = true := by rw [h49]; rfl
            have HV := Lib.hid (show (true && is01 b1) = true by rw [h49]; rfl)
            clear h49 h48
            go_wp2_with fail
            exact ⟨⟨i + 1, hlt, by go_num, by rw [HS.out, HV.out], by trivial⟩, by simp [RowKit.intOf] <;> omega⟩
          · have hq2 : ((b1.toNat : Int) == 49) = false := by
              have : b1.toNat ≠ 49 := fun h => h49 (UInt8.toNat_inj.1 h)
              simp; omega
            have HV := Lib.hid (show (true && is01 b1) = false by unfold is01; simp [h48, h49])
            clear h49 h48
            go_wp2_with fail
            exact ⟨⟨i + 1, hlt, by go_num, by rw [HS.out, HV.out], by trivial⟩, by simp [RowKit.intOf] <;> omega⟩
    · obtain rfl : i = m.length := by omega
      obtain ⟨lb, hlb⟩ : ∃ b, b = is01To m m.length := ⟨_, rfl⟩
      rw [← hlb]
      rw [is01_made] at hlb
      obtain ⟨E1, hE1⟩ : ∃ x, x = drawHead m u h q := ⟨_, rfl⟩
      have HE1 := Lib.hid hE1; have HLb := Lib.hid hlb
      clear hE1 hlb k1
      go_upto_region 8 with fail
      go_cut [21] from 54 to 75 (fun s21 wc => s21 = .int .i64 E1 ∧ Bl w4 wc)
      case first =>
        have k1 := (w21.bl hb4).all1; have k2 := (w22.bl hb4).all1; have k3 := (w23.bl hb4).all1; have k4 := (w24.bl hb4).all1
        cases h1 : inB u 1 8
        · have hf : firstNZ [whenI m.isEmpty 9, whenI (!lb) 2, whenI true 3] = E1 := by rw [HE1.out, HLb.out]; unfold drawHead; rw [show (!drawRange u h q) = true by unfold drawRange; rw [h1]; rfl]
          refine wp_region_flow [(true, 0), (true, 1), (true, 3), (true, 4), (true, 6), (false, 2), (false, 5), (false, 7), (true, 8), (true, 9), (true, 10), (false, 11), (true, 12), (true, 13), (true, 14), (true, 15), (false, 16), (true, 17), (true, 18), (false, 19), (false, 20), (false, 21), (true, 22)] (fun _ => false) (by kernel_rfl) (by kernel_rfl) (by kernel_rfl) (by kernel_rfl) ?_
          iterate 1
            apply Flow.calm2 _ _ rfl rfl
            · intro w' hb' K' hK'
              obtain ⟨hc', hf'⟩ := hb'.rule
              go_simp
              try go_ints
              exact hK'
            · intro K' hK'
              simp only [Act.put, List.setIfInBounds_toArray, List.set_cons_zero, List.set_cons_succ]
              exact hK'
          iterate 1
            apply Flow.calm2 _ _ rfl rfl
            · intro w' hb' K' hK'
              obtain ⟨hc', hf'⟩ := hb'.rule
              go_simp
              try go_ints
              exact hK'
            · intro K' hK'
              simp only [Act.put, List.setIfInBounds_toArray, List.set_cons_zero, List.set_cons_succ]
              exact hK'
          iterate 1
            apply Flow.mv _ rfl
            · intro K' hK'
              simp only [Act.put, Act.eval, List.setIfInBounds_toArray, List.set_cons_zero, List.set_cons_succ, arr_getD, List.getD_cons_zero, List.getD_cons_succ]
              exact hK'
          iterate 1
            apply Flow.calm2 _ _ rfl rfl
            · intro w' hb' K' hK'
              obtain ⟨hc', hf'⟩ := hb'.rule
              go_simp
              try go_ints
              exact hK'
            · intro K' hK'
              simp only [Act.put, List.setIfInBounds_toArray, List.set_cons_zero, List.set_cons_succ]
              exact hK'
          iterate 1
            apply Flow.calm2 _ _ rfl rfl
            · intro w' hb' K' hK'
              obtain ⟨hc', hf'⟩ := hb'.rule
              go_simp
              try go_ints
              exact hK'
            · intro K' hK'
              simp only [Act.put, List.setIfInBounds_toArray, List.set_cons_zero, List.set_cons_succ]
              exact hK'
          apply Flow.move rfl
          go_wp2_with fail
          refine (when_any _ _ _).mono ?_
          rintro e w' ⟨rfl, rfl⟩
          go_wp2_with fail
          refine ⟨fun _ => (by first | exact HB1 | exact Bl.refl _), ?_⟩
          apply Flow.move rfl
          go_wp2_with fail
          refine (when_any _ _ _).mono ?_
          rintro e w' ⟨rfl, rfl⟩
          go_wp2_with fail
          refine ⟨fun _ => (by first | exact HB2 | exact Bl.refl _), ?_⟩
          apply Flow.move rfl
          go_wp2_with fail
          refine (in_any _ _ _ _).mono ?_
          rintro e w' ⟨rfl, rfl⟩
          go_wp2_with fail
          refine ⟨fun _ => (by first | exact HB3 | exact Bl.refl _), ?_⟩
          iterate 1
            apply Flow.calm2 _ _ rfl rfl
            · intro w' hb' K' hK'
              obtain ⟨hc', hf'⟩ := hb'.rule
              go_simp
              try go_ints
              exact hK'
            · intro K' hK'
              simp only [Act.put, List.setIfInBounds_toArray, List.set_cons_zero, List.set_cons_succ]
              exact hK'
          iterate 1
            apply Flow.mv _ rfl
            · intro K' hK'
              simp only [Act.put, Act.eval, List.setIfInBounds_toArray, List.set_cons_zero, List.set_cons_succ, arr_getD, List.getD_cons_zero, List.getD_cons_succ]
              exact hK'
          first
            | (apply Flow.pass rfl (by rfl))
            | (apply Flow.calmG _ rfl (by rfl)
               · intro w' hb'
                 obtain ⟨hc', hf'⟩ := hb'.rule
                 go_simp
                 all_goals (try rfl))
          simp only [Act.put, List.setIfInBounds_toArray, List.set_cons_zero, List.set_cons_succ]
          try go_ints
          -- a guarded mover
          apply Flow.move rfl
          go_wp2_with fail
          refine ⟨fun _ => Bl.refl _, ?_⟩
          first
            | (apply Flow.pass rfl (by rfl))
            | (apply Flow.calmG _ rfl (by rfl)
               · intro w' hb'
                 obtain ⟨hc', hf'⟩ := hb'.rule
                 go_simp
                 all_goals (try rfl))
          simp only [Act.put, List.setIfInBounds_toArray, List.set_cons_zero, List.set_cons_succ]
          try go_ints
          iterate 1
            apply Flow.calm2 _ _ rfl rfl
            · intro w' hb' K' hK'
              obtain ⟨hc', hf'⟩ := hb'.rule
              go_simp
              try go_ints
              exact hK'
            · intro K' hK'
              simp only [Act.put, List.setIfInBounds_toArray, List.set_cons_zero, List.set_cons_succ]
              exact hK'
          iterate 1
            apply Flow.mv _ rfl
            · intro K' hK'
              simp only [Act.put, Act.eval, List.setIfInBounds_toArray, List.set_cons_zero, List.set_cons_succ, arr_getD, List.getD_cons_zero, List.getD_cons_succ]
              exact hK'
          first
            | (apply Flow.pass rfl (by rfl))
            | (apply Flow.calmG _ rfl (by rfl)
               · intro w' hb'
                 obtain ⟨hc', hf'⟩ := hb'.rule
                 go_simp
                 all_goals (try rfl))
          simp only [Act.put, List.setIfInBounds_toArray, List.set_cons_zero, List.set_cons_succ]
          try go_ints
          -- a guarded mover
          apply Flow.move rfl
          go_wp2_with fail
          refine ⟨fun _ => Bl.refl _, ?_⟩
          first
            | (apply Flow.pass rfl (by rfl))
            | (apply Flow.calmG _ rfl (by rfl)
               · intro w' hb'
                 obtain ⟨hc', hf'⟩ := hb'.rule
                 go_simp
                 all_goals (try rfl))
          simp only [Act.put, List.setIfInBounds_toArray, List.set_cons_zero, List.set_cons_succ]
          try go_ints
          iterate 1
            apply Flow.calm2 _ _ rfl rfl
            · intro w' hb' K' hK'
              obtain ⟨hc', hf'⟩ := hb'.rule
              go_simp
              try go_ints
              exact hK'
            · intro K' hK'
              simp only [Act.put, List.setIfInBounds_toArray, List.set_cons_zero, List.set_cons_succ]
              exact hK'
          apply Flow.move rfl
          go_wp2_with fail
          refine (when_any _ _ _).mono ?_
          rintro e w' ⟨rfl, rfl⟩
          go_wp2_with fail
          refine ⟨fun _ => (by first | exact HB6 | exact Bl.refl _), ?_⟩
          apply Flow.move rfl
          go_wp2_with fail
          first | refine ⟨fun _ => ?_, ?_⟩ | refine ⟨?_, ?_⟩
          · repeat' (first | exact Bl.refl _ | refine Bl.drewL ?_ | refine Bl.drew ?_ | refine Bl.alloc ?_ _)
          apply Flow.move rfl
          go_wp2_with fail
          first | refine (first3_any _ _ _ _ _ (Blk.new _ _ _).drew).mono ?_ | refine (first3_any _ _ _ _ _ (Blk.new _ _ _)).mono ?_
          rintro e w' ⟨rfl, rfl⟩
          go_wp2_with fail
          refine ⟨fun _ => (by first | exact HB8 | exact Bl.refl _), ?_⟩
          iterate 1
            apply Flow.asg _ rfl
            · intro K' hK'
              simp only [Act.put, Act.eval, List.setIfInBounds_toArray, List.set_cons_zero, List.set_cons_succ, arr_getD, List.getD_cons_zero, List.getD_cons_succ]
              exact hK'
          refine Flow.done ?_
          go_wp2_with fail
          go_meet
          case rel => exact ⟨by rw [← hf], by first | exact ((Bl.refl _).alloc _).drew | exact (Bl.refl _).alloc _ | exact (Bl.refl _).drew.alloc _⟩
        · cases h2 : inB h 1 4000
          · have hf : firstNZ [whenI m.isEmpty 9, whenI (!lb) 2, whenI true 3] = E1 := by rw [HE1.out, HLb.out]; unfold drawHead; rw [show (!drawRange u h q) = true by unfold drawRange; rw [h1, h2]; rfl]
            refine wp_region_flow [(true, 0), (true, 1), (true, 3), (true, 4), (true, 6), (false, 2), (false, 5), (false, 7), (true, 8), (true, 9), (true, 10), (false, 11), (true, 12), (true, 13), (true, 14), (true, 15), (false, 16), (true, 17), (true, 18), (false, 19), (false, 20), (false, 21), (true, 22)] (fun _ => false) (by kernel_rfl) (by kernel_rfl) (by kernel_rfl) (by kernel_rfl) ?_
            iterate 1
              apply Flow.calm2 _ _ rfl rfl
              · intro w' hb' K' hK'
                obtain ⟨hc', hf'⟩ := hb'.rule
                go_simp
                try go_ints
                exact hK'
              · intro K' hK'
                simp only [Act.put, List.setIfInBounds_toArray, List.set_cons_zero, List.set_cons_succ]
                exact hK'
            iterate 1
              apply Flow.calm2 _ _ rfl rfl
              · intro w' hb' K' hK'
                obtain ⟨hc', hf'⟩ := hb'.rule
                go_simp
                try go_ints
                exact hK'
              · intro K' hK'
                simp only [Act.put, List.setIfInBounds_toArray, List.set_cons_zero, List.set_cons_succ]
                exact hK'
            iterate 1
              apply Flow.mv _ rfl
              · intro K' hK'
                simp only [Act.put, Act.eval, List.setIfInBounds_toArray, List.set_cons_zero, List.set_cons_succ, arr_getD, List.getD_cons_zero, List.getD_cons_succ]
                exact hK'
            iterate 1
              apply Flow.calm2 _ _ rfl rfl
              · intro w' hb' K' hK'
                obtain ⟨hc', hf'⟩ := hb'.rule
                go_simp
                try go_ints
                exact hK'
              · intro K' hK'
                simp only [Act.put, List.setIfInBounds_toArray, List.set_cons_zero, List.set_cons_succ]
                exact hK'
            iterate 1
              apply Flow.calm2 _ _ rfl rfl
              · intro w' hb' K' hK'
                obtain ⟨hc', hf'⟩ := hb'.rule
                go_simp
                try go_ints
                exact hK'
              · intro K' hK'
                simp only [Act.put, List.setIfInBounds_toArray, List.set_cons_zero, List.set_cons_succ]
                exact hK'
            apply Flow.move rfl
            go_wp2_with fail
            refine (when_any _ _ _).mono ?_
            rintro e w' ⟨rfl, rfl⟩
            go_wp2_with fail
            refine ⟨fun _ => (by first | exact HB1 | exact Bl.refl _), ?_⟩
            apply Flow.move rfl
            go_wp2_with fail
            refine (when_any _ _ _).mono ?_
            rintro e w' ⟨rfl, rfl⟩
            go_wp2_with fail
            refine ⟨fun _ => (by first | exact HB2 | exact Bl.refl _), ?_⟩
            apply Flow.move rfl
            go_wp2_with fail
            refine (in_any _ _ _ _).mono ?_
            rintro e w' ⟨rfl, rfl⟩
            go_wp2_with fail
            refine ⟨fun _ => (by first | exact HB3 | exact Bl.refl _), ?_⟩
            iterate 1
              apply Flow.calm2 _ _ rfl rfl
              · intro w' hb' K' hK'
                obtain ⟨hc', hf'⟩ := hb'.rule
                go_simp
                try go_ints
                exact hK'
              · intro K' hK'
                simp only [Act.put, List.setIfInBounds_toArray, List.set_cons_zero, List.set_cons_succ]
                exact hK'
            iterate 1
              apply Flow.mv _ rfl
              · intro K' hK'
                simp only [Act.put, Act.eval, List.setIfInBounds_toArray, List.set_cons_zero, List.set_cons_succ, arr_getD, List.getD_cons_zero, List.getD_cons_succ]
                exact hK'
            first
              | (apply Flow.pass rfl (by rfl))
              | (apply Flow.calmG _ rfl (by rfl)
                 · intro w' hb'
                   obtain ⟨hc', hf'⟩ := hb'.rule
                   go_simp
                   all_goals (try rfl))
            simp only [Act.put, List.setIfInBounds_toArray, List.set_cons_zero, List.set_cons_succ]
            try go_ints
            -- a guarded mover
            apply Flow.move rfl
            go_wp2_with fail
            refine (in_any _ _ _ _).mono ?_
            rintro e w' ⟨rfl, rfl⟩
            go_wp2_with fail
            refine ⟨fun _ => (by first | exact HB4 | exact Bl.refl _), ?_⟩
            first
              | (apply Flow.pass rfl (by rfl))
              | (apply Flow.calmG _ rfl (by rfl)
                 · intro w' hb'
                   obtain ⟨hc', hf'⟩ := hb'.rule
                   go_simp
                   all_goals (try rfl))
            simp only [Act.put, List.setIfInBounds_toArray, List.set_cons_zero, List.set_cons_succ]
            try go_ints
            iterate 1
              apply Flow.calm2 _ _ rfl rfl
              · intro w' hb' K' hK'
                obtain ⟨hc', hf'⟩ := hb'.rule
                go_simp
                try go_ints
                exact hK'
              · intro K' hK'
                simp only [Act.put, List.setIfInBounds_toArray, List.set_cons_zero, List.set_cons_succ]
                exact hK'
            iterate 1
              apply Flow.mv _ rfl
              · intro K' hK'
                simp only [Act.put, Act.eval, List.setIfInBounds_toArray, List.set_cons_zero, List.set_cons_succ, arr_getD, List.getD_cons_zero, List.getD_cons_succ]
                exact hK'
            first
              | (apply Flow.pass rfl (by rfl))
              | (apply Flow.calmG _ rfl (by rfl)
                 · intro w' hb'
                   obtain ⟨hc', hf'⟩ := hb'.rule
                   go_simp
                   all_goals (try rfl))
            simp only [Act.put, List.setIfInBounds_toArray, List.set_cons_zero, List.set_cons_succ]
            try go_ints
            -- a guarded mover
            apply Flow.move rfl
            go_wp2_with fail
            refine ⟨fun _ => Bl.refl _, ?_⟩
            first
              | (apply Flow.pass rfl (by rfl))
              | (apply Flow.calmG _ rfl (by rfl)
                 · intro w' hb'
                   obtain ⟨hc', hf'⟩ := hb'.rule
                   go_simp
                   all_goals (try rfl))
            simp only [Act.put, List.setIfInBounds_toArray, List.set_cons_zero, List.set_cons_succ]
            try go_ints
            iterate 1
              apply Flow.calm2 _ _ rfl rfl
              · intro w' hb' K' hK'
                obtain ⟨hc', hf'⟩ := hb'.rule
                go_simp
                try go_ints
                exact hK'
              · intro K' hK'
                simp only [Act.put, List.setIfInBounds_toArray, List.set_cons_zero, List.set_cons_succ]
                exact hK'
            apply Flow.move rfl
            go_wp2_with fail
            refine (when_any _ _ _).mono ?_
            rintro e w' ⟨rfl, rfl⟩
            go_wp2_with fail
            refine ⟨fun _ => (by first | exact HB6 | exact Bl.refl _), ?_⟩
            apply Flow.move rfl
            go_wp2_with fail
            first | refine ⟨fun _ => ?_, ?_⟩ | refine ⟨?_, ?_⟩
            · repeat' (first | exact Bl.refl _ | refine Bl.drewL ?_ | refine Bl.drew ?_ | refine Bl.alloc ?_ _)
            apply Flow.move rfl
            go_wp2_with fail
            first | refine (first3_any _ _ _ _ _ (Blk.new _ _ _).drew).mono ?_ | refine (first3_any _ _ _ _ _ (Blk.new _ _ _)).mono ?_
            rintro e w' ⟨rfl, rfl⟩
            go_wp2_with fail
            refine ⟨fun _ => (by first | exact HB8 | exact Bl.refl _), ?_⟩
            iterate 1
              apply Flow.asg _ rfl
              · intro K' hK'
                simp only [Act.put, Act.eval, List.setIfInBounds_toArray, List.set_cons_zero, List.set_cons_succ, arr_getD, List.getD_cons_zero, List.getD_cons_succ]
                exact hK'
            refine Flow.done ?_
            go_wp2_with fail
            go_meet
            case rel => exact ⟨by rw [← hf], by first | exact ((Bl.refl _).alloc _).drew | exact (Bl.refl _).alloc _ | exact (Bl.refl _).drew.alloc _⟩
          · cases h3 : inB q 0 200
            · have hf : firstNZ [whenI m.isEmpty 9, whenI (!lb) 2, whenI true 3] = E1 := by rw [HE1.out, HLb.out]; unfold drawHead; rw [show (!drawRange u h q) = true by unfold drawRange; rw [h1, h2, h3]; rfl]
              refine wp_region_flow [(true, 0), (true, 1), (true, 3), (true, 4), (true, 6), (false, 2), (false, 5), (false, 7), (true, 8), (true, 9), (true, 10), (false, 11), (true, 12), (true, 13), (true, 14), (true, 15), (false, 16), (true, 17), (true, 18), (false, 19), (false, 20), (false, 21), (true, 22)] (fun _ => false) (by kernel_rfl) (by kernel_rfl) (by kernel_rfl) (by kernel_rfl) ?_
              iterate 1
                apply Flow.calm2 _ _ rfl rfl
                · intro w' hb' K' hK'
                  obtain ⟨hc', hf'⟩ := hb'.rule
                  go_simp
                  try go_ints
                  exact hK'
                · intro K' hK'
                  simp only [Act.put, List.setIfInBounds_toArray, List.set_cons_zero, List.set_cons_succ]
                  exact hK'
              iterate 1
                apply Flow.calm2 _ _ rfl rfl
                · intro w' hb' K' hK'
                  obtain ⟨hc', hf'⟩ := hb'.rule
                  go_simp
                  try go_ints
                  exact hK'
                · intro K' hK'
                  simp only [Act.put, List.setIfInBounds_toArray, List.set_cons_zero, List.set_cons_succ]
                  exact hK'
              iterate 1
                apply Flow.mv _ rfl
                · intro K' hK'
                  simp only [Act.put, Act.eval, List.setIfInBounds_toArray, List.set_cons_zero, List.set_cons_succ, arr_getD, List.getD_cons_zero, List.getD_cons_succ]
                  exact hK'
              iterate 1
                apply Flow.calm2 _ _ rfl rfl
                · intro w' hb' K' hK'
                  obtain ⟨hc', hf'⟩ := hb'.rule
                  go_simp
                  try go_ints
                  exact hK'
                · intro K' hK'
                  simp only [Act.put, List.setIfInBounds_toArray, List.set_cons_zero, List.set_cons_succ]
                  exact hK'
              iterate 1
                apply Flow.calm2 _ _ rfl rfl
                · intro w' hb' K' hK'
                  obtain ⟨hc', hf'⟩ := hb'.rule
                  go_simp
                  try go_ints
                  exact hK'
                · intro K' hK'
                  simp only [Act.put, List.setIfInBounds_toArray, List.set_cons_zero, List.set_cons_succ]
                  exact hK'
              apply Flow.move rfl
              go_wp2_with fail
              refine (when_any _ _ _).mono ?_
              rintro e w' ⟨rfl, rfl⟩
              go_wp2_with fail
              refine ⟨fun _ => (by first | exact HB1 | exact Bl.refl _), ?_⟩
              apply Flow.move rfl
              go_wp2_with fail
              refine (when_any _ _ _).mono ?_
              rintro e w' ⟨rfl, rfl⟩
              go_wp2_with fail
              refine ⟨fun _ => (by first | exact HB2 | exact Bl.refl _), ?_⟩
              apply Flow.move rfl
              go_wp2_with fail
              refine (in_any _ _ _ _).mono ?_
              rintro e w' ⟨rfl, rfl⟩
              go_wp2_with fail
              refine ⟨fun _ => (by first | exact HB3 | exact Bl.refl _), ?_⟩
              iterate 1
                apply Flow.calm2 _ _ rfl rfl
                · intro w' hb' K' hK'
                  obtain ⟨hc', hf'⟩ := hb'.rule
                  go_simp
                  try go_ints
                  exact hK'
                · intro K' hK'
                  simp only [Act.put, List.setIfInBounds_toArray, List.set_cons_zero, List.set_cons_succ]
                  exact hK'
              iterate 1
                apply Flow.mv _ rfl
                · intro K' hK'
                  simp only [Act.put, Act.eval, List.setIfInBounds_toArray, List.set_cons_zero, List.set_cons_succ, arr_getD, List.getD_cons_zero, List.getD_cons_succ]
                  exact hK'
              first
                | (apply Flow.pass rfl (by rfl))
                | (apply Flow.calmG _ rfl (by rfl)
                   · intro w' hb'
                     obtain ⟨hc', hf'⟩ := hb'.rule
                     go_simp
                     all_goals (try rfl))
              simp only [Act.put, List.setIfInBounds_toArray, List.set_cons_zero, List.set_cons_succ]
              try go_ints
              -- a guarded mover
              apply Flow.move rfl
              go_wp2_with fail
              refine (in_any _ _ _ _).mono ?_
              rintro e w' ⟨rfl, rfl⟩
              go_wp2_with fail
              refine ⟨fun _ => (by first | exact HB4 | exact Bl.refl _), ?_⟩
              first
                | (apply Flow.pass rfl (by rfl))
                | (apply Flow.calmG _ rfl (by rfl)
                   · intro w' hb'
                     obtain ⟨hc', hf'⟩ := hb'.rule
                     go_simp
                     all_goals (try rfl))
              simp only [Act.put, List.setIfInBounds_toArray, List.set_cons_zero, List.set_cons_succ]
              try go_ints
              iterate 1
                apply Flow.calm2 _ _ rfl rfl
                · intro w' hb' K' hK'
                  obtain ⟨hc', hf'⟩ := hb'.rule
                  go_simp
                  try go_ints
                  exact hK'
                · intro K' hK'
                  simp only [Act.put, List.setIfInBounds_toArray, List.set_cons_zero, List.set_cons_succ]
                  exact hK'
              iterate 1
                apply Flow.mv _ rfl
                · intro K' hK'
                  simp only [Act.put, Act.eval, List.setIfInBounds_toArray, List.set_cons_zero, List.set_cons_succ, arr_getD, List.getD_cons_zero, List.getD_cons_succ]
                  exact hK'
              first
                | (apply Flow.pass rfl (by rfl))
                | (apply Flow.calmG _ rfl (by rfl)
                   · intro w' hb'
                     obtain ⟨hc', hf'⟩ := hb'.rule
                     go_simp
                     all_goals (try rfl))
              simp only [Act.put, List.setIfInBounds_toArray, List.set_cons_zero, List.set_cons_succ]
              try go_ints
              -- a guarded mover
              apply Flow.move rfl
              go_wp2_with fail
              refine (in_any _ _ _ _).mono ?_
              rintro e w' ⟨rfl, rfl⟩
              go_wp2_with fail
              refine ⟨fun _ => (by first | exact HB5 | exact Bl.refl _), ?_⟩
              first
                | (apply Flow.pass rfl (by rfl))
                | (apply Flow.calmG _ rfl (by rfl)
                   · intro w' hb'
                     obtain ⟨hc', hf'⟩ := hb'.rule
                     go_simp
                     all_goals (try rfl))
              simp only [Act.put, List.setIfInBounds_toArray, List.set_cons_zero, List.set_cons_succ]
              try go_ints
              iterate 1
                apply Flow.calm2 _ _ rfl rfl
                · intro w' hb' K' hK'
                  obtain ⟨hc', hf'⟩ := hb'.rule
                  go_simp
                  try go_ints
                  exact hK'
                · intro K' hK'
                  simp only [Act.put, List.setIfInBounds_toArray, List.set_cons_zero, List.set_cons_succ]
                  exact hK'
              apply Flow.move rfl
              go_wp2_with fail
              refine (when_any _ _ _).mono ?_
              rintro e w' ⟨rfl, rfl⟩
              go_wp2_with fail
              refine ⟨fun _ => (by first | exact HB6 | exact Bl.refl _), ?_⟩
              apply Flow.move rfl
              go_wp2_with fail
              first | refine ⟨fun _ => ?_, ?_⟩ | refine ⟨?_, ?_⟩
              · repeat' (first | exact Bl.refl _ | refine Bl.drewL ?_ | refine Bl.drew ?_ | refine Bl.alloc ?_ _)
              apply Flow.move rfl
              go_wp2_with fail
              first | refine (first3_any _ _ _ _ _ (Blk.new _ _ _).drew).mono ?_ | refine (first3_any _ _ _ _ _ (Blk.new _ _ _)).mono ?_
              rintro e w' ⟨rfl, rfl⟩
              go_wp2_with fail
              refine ⟨fun _ => (by first | exact HB8 | exact Bl.refl _), ?_⟩
              iterate 1
                apply Flow.asg _ rfl
                · intro K' hK'
                  simp only [Act.put, Act.eval, List.setIfInBounds_toArray, List.set_cons_zero, List.set_cons_succ, arr_getD, List.getD_cons_zero, List.getD_cons_succ]
                  exact hK'
              refine Flow.done ?_
              go_wp2_with fail
              go_meet
              case rel => exact ⟨by rw [← hf], by first | exact ((Bl.refl _).alloc _).drew | exact (Bl.refl _).alloc _ | exact (Bl.refl _).drew.alloc _⟩
            · have hf : firstNZ [whenI m.isEmpty 9, whenI (!lb) 2, whenI false 3] = E1 := by rw [HE1.out, HLb.out]; unfold drawHead; rw [show (!drawRange u h q) = false by unfold drawRange; rw [h1, h2, h3]; rfl]
              refine wp_region_flow [(true, 0), (true, 1), (true, 3), (true, 4), (true, 6), (false, 2), (false, 5), (false, 7), (true, 8), (true, 9), (true, 10), (false, 11), (true, 12), (true, 13), (true, 14), (true, 15), (false, 16), (true, 17), (true, 18), (false, 19), (false, 20), (false, 21), (true, 22)] (fun _ => false) (by kernel_rfl) (by kernel_rfl) (by kernel_rfl) (by kernel_rfl) ?_
              iterate 1
                apply Flow.calm2 _ _ rfl rfl
                · intro w' hb' K' hK'
                  obtain ⟨hc', hf'⟩ := hb'.rule
                  go_simp
                  try go_ints
                  exact hK'
                · intro K' hK'
                  simp only [Act.put, List.setIfInBounds_toArray, List.set_cons_zero, List.set_cons_succ]
                  exact hK'
              iterate 1
                apply Flow.calm2 _ _ rfl rfl
                · intro w' hb' K' hK'
                  obtain ⟨hc', hf'⟩ := hb'.rule
                  go_simp
                  try go_ints
                  exact hK'
                · intro K' hK'
                  simp only [Act.put, List.setIfInBounds_toArray, List.set_cons_zero, List.set_cons_succ]
                  exact hK'
              iterate 1
                apply Flow.mv _ rfl
                · intro K' hK'
                  simp only [Act.put, Act.eval, List.setIfInBounds_toArray, List.set_cons_zero, List.set_cons_succ, arr_getD, List.getD_cons_zero, List.getD_cons_succ]
                  exact hK'
              iterate 1
                apply Flow.calm2 _ _ rfl rfl
                · intro w' hb' K' hK'
                  obtain ⟨hc', hf'⟩ := hb'.rule
                  go_simp
                  try go_ints
                  exact hK'
                · intro K' hK'
                  simp only [Act.put, List.setIfInBounds_toArray, List.set_cons_zero, List.set_cons_succ]
                  exact hK'
              iterate 1
                apply Flow.calm2 _ _ rfl rfl
                · intro w' hb' K' hK'
                  obtain ⟨hc', hf'⟩ := hb'.rule
                  go_simp
                  try go_ints
                  exact hK'
                · intro K' hK'
                  simp only [Act.put, List.setIfInBounds_toArray, List.set_cons_zero, List.set_cons_succ]
                  exact hK'
              apply Flow.move rfl
              go_wp2_with fail
              refine (when_any _ _ _).mono ?_
              rintro e w' ⟨rfl, rfl⟩
              go_wp2_with fail
              refine ⟨fun _ => (by first | exact HB1 | exact Bl.refl _), ?_⟩
              apply Flow.move rfl
              go_wp2_with fail
              refine (when_any _ _ _).mono ?_
              rintro e w' ⟨rfl, rfl⟩
              go_wp2_with fail
              refine ⟨fun _ => (by first | exact HB2 | exact Bl.refl _), ?_⟩
              apply Flow.move rfl
              go_wp2_with fail
              refine (in_any _ _ _ _).mono ?_
              rintro e w' ⟨rfl, rfl⟩
              go_wp2_with fail
              refine ⟨fun _ => (by first | exact HB3 | exact Bl.refl _), ?_⟩
              iterate 1
                apply Flow.calm2 _ _ rfl rfl
                · intro w' hb' K' hK'
                  obtain ⟨hc', hf'⟩ := hb'.rule
                  go_simp
                  try go_ints
                  exact hK'
                · intro K' hK'
                  simp only [Act.put, List.setIfInBounds_toArray, List.set_cons_zero, List.set_cons_succ]
                  exact hK'
              iterate 1
                apply Flow.mv _ rfl
                · intro K' hK'
                  simp only [Act.put, Act.eval, List.setIfInBounds_toArray, List.set_cons_zero, List.set_cons_succ, arr_getD, List.getD_cons_zero, List.getD_cons_succ]
                  exact hK'
              first
                | (apply Flow.pass rfl (by rfl))
                | (apply Flow.calmG _ rfl (by rfl)
                   · intro w' hb'
                     obtain ⟨hc', hf'⟩ := hb'.rule
                     go_simp
                     all_goals (try rfl))
              simp only [Act.put, List.setIfInBounds_toArray, List.set_cons_zero, List.set_cons_succ]
              try go_ints
              -- a guarded mover
              apply Flow.move rfl
              go_wp2_with fail
              refine (in_any _ _ _ _).mono ?_
              rintro e w' ⟨rfl, rfl⟩
              go_wp2_with fail
              refine ⟨fun _ => (by first | exact HB4 | exact Bl.refl _), ?_⟩
              first
                | (apply Flow.pass rfl (by rfl))
                | (apply Flow.calmG _ rfl (by rfl)
                   · intro w' hb'
                     obtain ⟨hc', hf'⟩ := hb'.rule
                     go_simp
                     all_goals (try rfl))
              simp only [Act.put, List.setIfInBounds_toArray, List.set_cons_zero, List.set_cons_succ]
              try go_ints
              iterate 1
                apply Flow.calm2 _ _ rfl rfl
                · intro w' hb' K' hK'
                  obtain ⟨hc', hf'⟩ := hb'.rule
                  go_simp
                  try go_ints
                  exact hK'
                · intro K' hK'
                  simp only [Act.put, List.setIfInBounds_toArray, List.set_cons_zero, List.set_cons_succ]
                  exact hK'
              iterate 1
                apply Flow.mv _ rfl
                · intro K' hK'
                  simp only [Act.put, Act.eval, List.setIfInBounds_toArray, List.set_cons_zero, List.set_cons_succ, arr_getD, List.getD_cons_zero, List.getD_cons_succ]
                  exact hK'
              first
                | (apply Flow.pass rfl (by rfl))
                | (apply Flow.calmG _ rfl (by rfl)
                   · intro w' hb'
                     obtain ⟨hc', hf'⟩ := hb'.rule
                     go_simp
                     all_goals (try rfl))
              simp only [Act.put, List.setIfInBounds_toArray, List.set_cons_zero, List.set_cons_succ]
              try go_ints
              -- a guarded mover
              apply Flow.move rfl
              go_wp2_with fail
              refine (in_any _ _ _ _).mono ?_
              rintro e w' ⟨rfl, rfl⟩
              go_wp2_with fail
              refine ⟨fun _ => (by first | exact HB5 | exact Bl.refl _), ?_⟩
              first
                | (apply Flow.pass rfl (by rfl))
                | (apply Flow.calmG _ rfl (by rfl)
                   · intro w' hb'
                     obtain ⟨hc', hf'⟩ := hb'.rule
                     go_simp
                     all_goals (try rfl))
              simp only [Act.put, List.setIfInBounds_toArray, List.set_cons_zero, List.set_cons_succ]
              try go_ints
              iterate 1
                apply Flow.calm2 _ _ rfl rfl
                · intro w' hb' K' hK'
                  obtain ⟨hc', hf'⟩ := hb'.rule
                  go_simp
                  try go_ints
                  exact hK'
                · intro K' hK'
                  simp only [Act.put, List.setIfInBounds_toArray, List.set_cons_zero, List.set_cons_succ]
                  exact hK'
              apply Flow.move rfl
              go_wp2_with fail
              refine (when_any _ _ _).mono ?_
              rintro e w' ⟨rfl, rfl⟩
              go_wp2_with fail
              refine ⟨fun _ => (by first | exact HB6 | exact Bl.refl _), ?_⟩
              apply Flow.move rfl
              go_wp2_with fail
              first | refine ⟨fun _ => ?_, ?_⟩ | refine ⟨?_, ?_⟩
              · repeat' (first | exact Bl.refl _ | refine Bl.drewL ?_ | refine Bl.drew ?_ | refine Bl.alloc ?_ _)
              apply Flow.move rfl
              go_wp2_with fail
              first | refine (first3_any _ _ _ _ _ (Blk.new _ _ _).drew).mono ?_ | refine (first3_any _ _ _ _ _ (Blk.new _ _ _)).mono ?_
              rintro e w' ⟨rfl, rfl⟩
              go_wp2_with fail
              refine ⟨fun _ => (by first | exact HB8 | exact Bl.refl _), ?_⟩
              iterate 1
                apply Flow.asg _ rfl
                · intro K' hK'
                  simp only [Act.put, Act.eval, List.setIfInBounds_toArray, List.set_cons_zero, List.set_cons_succ, arr_getD, List.getD_cons_zero, List.getD_cons_succ]
                  exact hK'
              refine Flow.done ?_
              go_wp2_with fail
              go_meet
              case rel => exact ⟨by rw [← hf], by first | exact ((Bl.refl _).alloc _).drew | exact (Bl.refl _).alloc _ | exact (Bl.refl _).drew.alloc _⟩
      case rest =>
        obtain ⟨rfl, hbc⟩ := hcut
        rename World => w6
        have hb6 := hb4.trans hbc
        have HEh := Lib.hid (show E = if E1 = 0 then sizeErr (2 * q + u * m.length) h else E1 by rw [HE.out, HE1.out]; exact drawErr_head m u h q)
        go_upto_if 77 with fail
        go_cut [21] from 78 to 86 (fun s21 wc => s21 = .int .i64 E ∧ Bl w6 wc)
        case first =>
          have k1 := (w21.bl hb6).all1; have k2 := (w22.bl hb6).all1; have k3 := (w23.bl hb6).all1; have k4 := (w24.bl hb6).all1
          by_cases hz : E1 = 0
          · obtain ⟨U, H, Q, rfl, rfl, rfl, hU, hH, hQ⟩ := range_nat (drawHead_zero (HE1.out.symm.trans hz))
            obtain ⟨M1, hM1⟩ : ∃ M, M = U * m.length := ⟨_, rfl⟩
            have hMI : (U : Int) * (m.length : Int) = (M1 : Int) := by rw [hM1, Int.natCast_mul]
            have hm1 : M1 ≤ 8 * 1048576 := by rw [hM1]; exact Nat.mul_le_mul hU.2 hm
            have HV := Lib.hid (show sizeErr (2 * (Q : Int) + (M1 : Int)) (H : Int) = E by rw [HEh.out, if_pos hz, hMI])
            subst hz
            clear hM1
            go_wp2_with fail
            refine (sizeError_any _ _ _).mono ?_
            rintro e w7 ⟨rfl, hb7⟩
            go_wp2_with fail
            go_meet
            case rel => exact ⟨by rw [HV.out], hb7⟩
          · have hq2 : (E1 == 0) = false := by simp [hz]
            have HV := Lib.hid (show E = E1 by rw [HEh.out]; exact if_neg hz)
            clear hz
            go_wp2_with fail
            go_meet
            case rel => exact ⟨by rw [HV.out], Bl.refl _⟩
        case rest =>
          obtain ⟨rfl, hbc2⟩ := hcut
          rename World => w7
          have hb7 := hb6.trans hbc2
          have hbo7 := hbc.trans hbc2
          have hmk : E = 0 → ∃ U H Q V : Nat, u = (U : Int) ∧ h = (H : Int) ∧ q = (Q : Int) ∧ (1 ≤ U ∧ U ≤ 8) ∧ (1 ≤ H ∧ H ≤ 4000) ∧ Q ≤ 200 ∧ V = 2 * Q + U * m.length ∧ V ≤ 4000 ∧ V * H ≤ 1048576 ∧ m.length ≤ 4000 := fun he => by
            obtain ⟨h0, hs⟩ := draw_zero (HE.out.symm.trans he)
            obtain ⟨U, H, Q, rfl, rfl, rfl, hU, hH, hQ⟩ := range_nat (drawHead_zero h0)
            have hz := sizeErr_zero hs
            have e1 : 2 * (Q : Int) + (U : Int) * (m.length : Int) = ((2 * Q + U * m.length : Nat) : Int) := by simp
            rw [e1] at hz
            have e2 : (((2 * Q + U * m.length) * H : Nat) : Int) = ((2 * Q + U * m.length : Nat) : Int) * (H : Int) := Int.natCast_mul _ _
            have e3 : 1 * m.length ≤ U * m.length := Nat.mul_le_mul_right _ hU.1
            exact ⟨U, H, Q, _, rfl, rfl, rfl, hU, hH, hQ, rfl, by omega, by omega, by omega⟩
          have HMk := Lib.hid hmk
          clear hmk

          go_upto_region 11 with fail
          obtain ⟨bg, hbg⟩ : ∃ b, b = decide (E = 0 ∧ 20000 < (m.length : Int) * u * h) := ⟨_, rfl⟩
          have HBg := Lib.hid hbg
          clear hbg
          go_cut [97] from 87 to 97 (fun s97 wc => s97 = .bool bg ∧ wc = w7)
          case first =>
            have k1 := (w21.bl hb7).all1; have k2 := (w22.bl hb7).all1; have k3 := (w23.bl hb7).all1
            by_cases hz : E = 0
            · obtain ⟨U, H, Q, V, rfl, rfl, rfl, hU, hH, hQ, hV, hV4, hVH, hml⟩ := HMk.out hz
              obtain ⟨M1, hM1⟩ : ∃ M, M = m.length * U := ⟨_, rfl⟩
              have hm1 : M1 ≤ 4000 * 8 := by rw [hM1]; exact Nat.mul_le_mul hml hU.2
              have hMI : (m.length : Int) * (U : Int) = (M1 : Int) := by rw [hM1, Int.natCast_mul]
              obtain ⟨M2, hM2⟩ : ∃ M, M = M1 * H := ⟨_, rfl⟩
              have hm2 : M2 ≤ 32000 * 4000 := by rw [hM2]; exact Nat.mul_le_mul hm1 hH.2
              have hMJ : (M1 : Int) * (H : Int) = (M2 : Int) := by rw [hM2, Int.natCast_mul]
              by_cases hb2 : 20000 < M2
              · have HV := Lib.hid (show bg = true by rw [HBg.out, hMI, hMJ]; exact decide_eq_true ⟨hz, by omega⟩)
                subst hz
                clear hM1 hM2 hV
                go_wp2_with fail
                go_meet
                case rel => exact ⟨by rw [HV.out]; first | rfl | (simp; omega), rfl⟩
              · have HV := Lib.hid (show bg = false by rw [HBg.out, hMI, hMJ]; exact decide_eq_false (fun h => by omega))
                subst hz
                clear hM1 hM2 hV
                go_wp2_with fail
                go_meet
                case rel => exact ⟨by rw [HV.out]; first | rfl | (simp; omega), rfl⟩
            · have hq2 : (E == 0) = false := by simp [hz]
              have HV := Lib.hid (show bg = false by rw [HBg.out]; exact decide_eq_false (fun h => hz h.1))
              clear hz
              go_wp2_with fail
              go_meet
              case rel => exact ⟨by rw [HV.out], rfl⟩
          case rest =>
            obtain ⟨rfl, rfl⟩ := hcut
            rename World => w7
            cases bg with
            | true =>
              go_wp2_with fail
              refine (bars_any _).mono ?_
              rintro e w8 ⟨rfl, hb8⟩
              go_wp2_with fail
              go_ret
              exact ⟨rfl, w2b.trans (hb7.trans hb8)⟩
            | false =>
              go_upto_region 13 with fail
              go_cut [108] from 99 to 108 (fun s108 wc => s108 = .bool false ∧ Bl w7 wc)
              case first =>
                go_wp2_with fail
                refine (bars_any _).mono ?_
                rintro e w8 ⟨rfl, hb8⟩
                have hb28 := hb7.trans hb8
                have hbo8 := hbo7.trans hb8
                have kO := (bO.bl hbo8).all3
                have hbi := bitsIs_any w2.heap.size E (2 * q + u * m.length).toNat h.toNat (grid (2 * q + u * m.length).toNat h.toNat (drawF m u.toNat q.toNat)) a b R n d 36 #[.pointer (some ⟨w.heap.size, 0, none⟩), .pointer (some ⟨w.heap.size + 1, 0, none⟩), .pointer (some ⟨w.heap.size + 1 + 1, 0, none⟩), .pointer (some ⟨w.heap.size + 1 + 1 + 1, 0, none⟩)] w8 (HRes.out.bl (hb34.trans hbo8)) (fun h0 => by
                  obtain ⟨U, H, Q, V, rfl, rfl, rfl, hU, hH, hQ, hV, hV4, hVH, hml⟩ := HMk.out h0
                  rw [show (2 * (Q : Int) + (U : Int) * (m.length : Int)).toNat = V by rw [hV]; simp only [← Int.natCast_mul]; omega]
                  simp only [Int.toNat_natCast]
                  exact draws1_makes _ _ _ _ m U H Q V w8 (w21.bl hb28) (w22.bl hb28) (w23.bl hb28) (w24.bl hb28) hU hQ hml hV hV4 hH.2) (fun h0 => by
                  obtain ⟨U, H, Q, V, rfl, rfl, rfl, hU, hH, hQ, hV, hV4, hVH, hml⟩ := HMk.out h0
                  rw [show (2 * (Q : Int) + (U : Int) * (m.length : Int)).toNat = V by rw [hV]; simp only [← Int.natCast_mul]; omega]
                  simp only [Int.toNat_natCast]
                  omega)
                have Hbi := Lib.hid hbi
                clear hbi
                go_wp2_with fail
                refine Hbi.out.mono ?_
                rintro e w9 ⟨rfl, hb9⟩
                go_wp2_with fail
                go_meet
                case rel => exact ⟨by first | rfl | simp, hb8.trans hb9⟩
              case rest =>
                obtain ⟨rfl, hbc3⟩ := hcut
                rename World => w8
                have hb8 := hb7.trans hbc3
                clear HRes bO HMk
                have k5 := (w25.bl hb8).all3
                have hrn := runs_any pW pH A an ac bs y w8 (HA.out.bl hb8) hac
                unfold RunsRes at hrn
                obtain ⟨E2, hE2⟩ : ∃ x, x = runsErr (pageErr pW pH an) pH y := ⟨_, rfl⟩
                rw [← hE2] at hrn
                have Hrn := Lib.hid hrn; have HE2 := Lib.hid hE2
                clear hrn hE2
                go_wp2_with fail
                refine Hrn.out.mono ?_
                rintro e w9 ⟨R2, m2, d2, E2', rfl, rfl, hbad, hok, hb89⟩
                rename Int => E2
                have hb9 := hb8.trans hb89
                have HBad := Lib.hid hbad; have HOk := Lib.hid hok
                clear k5 Hrn hbad hok
                go_upto_region 16 with fail
                go_cut [23] from 115 to 125 (fun s23 wc => s23 = .int .i64 E2 ∧ Bl w9 wc)
                case first =>
                  have k5 := (w25.bl hb9).all3
                  have hf : firstNZ [pageErr pW pH an, whenI (!inB y 0 (wrap64 (pH - 1))) 13] = E2 := by rw [HE2.out]; exact runsErr_wrap _ _ _ _
                  refine wp_region_flow [(true, 0), (true, 2), (true, 3), (true, 4), (true, 5), (false, 1), (false, 6), (true, 7), (false, 8), (false, 9), (false, 10), (true, 11)] (fun _ => false) (by kernel_rfl) (by kernel_rfl) (by kernel_rfl) (by kernel_rfl) ?_
                  iterate 1
                    apply Flow.calm2 _ _ rfl rfl
                    · intro w' hb' K' hK'
                      obtain ⟨hc', hf'⟩ := hb'.rule
                      go_simp
                      try go_ints
                      exact hK'
                    · intro K' hK'
                      simp only [Act.put, List.setIfInBounds_toArray, List.set_cons_zero, List.set_cons_succ]
                      exact hK'
                  iterate 1
                    apply Flow.mv _ rfl
                    · intro K' hK'
                      simp only [Act.put, Act.eval, List.setIfInBounds_toArray, List.set_cons_zero, List.set_cons_succ, arr_getD, List.getD_cons_zero, List.getD_cons_succ]
                      exact hK'
                  iterate 1
                    apply Flow.calm2 _ _ rfl rfl
                    · intro w' hb' K' hK'
                      obtain ⟨hc', hf'⟩ := hb'.rule
                      go_simp
                      try go_ints
                      exact hK'
                    · intro K' hK'
                      simp only [Act.put, List.setIfInBounds_toArray, List.set_cons_zero, List.set_cons_succ]
                      exact hK'
                  iterate 1
                    apply Flow.calm2 _ _ rfl rfl
                    · intro w' hb' K' hK'
                      obtain ⟨hc', hf'⟩ := hb'.rule
                      go_simp
                      try go_ints
                      exact hK'
                    · intro K' hK'
                      simp only [Act.put, List.setIfInBounds_toArray, List.set_cons_zero, List.set_cons_succ]
                      exact hK'
                  iterate 1
                    apply Flow.calm2 _ _ rfl rfl
                    · intro w' hb' K' hK'
                      obtain ⟨hc', hf'⟩ := hb'.rule
                      go_simp
                      try go_ints
                      exact hK'
                    · intro K' hK'
                      simp only [Act.put, List.setIfInBounds_toArray, List.set_cons_zero, List.set_cons_succ]
                      exact hK'
                  apply Flow.move rfl
                  go_wp2_with fail
                  refine (bitsError_any _ _ _ _ _ _).mono ?_
                  rintro e w10 ⟨rfl, HB1⟩
                  have hb10 := hb9.trans (Bl.ofDrew HB1)
                  have k5 := (w25.bl hb10).all3
                  go_wp2_with fail
                  refine ⟨fun _ => (by first | exact HB1 | exact Bl.refl _), ?_⟩
                  apply Flow.move rfl
                  go_wp2_with fail
                  refine (in_any _ _ _ _).mono ?_
                  rintro e w' ⟨rfl, rfl⟩
                  go_wp2_with fail
                  refine ⟨fun _ => (by first | exact HB2 | exact Bl.refl _), ?_⟩
                  iterate 1
                    apply Flow.calm2 _ _ rfl rfl
                    · intro w' hb' K' hK'
                      obtain ⟨hc', hf'⟩ := hb'.rule
                      go_simp
                      try go_ints
                      exact hK'
                    · intro K' hK'
                      simp only [Act.put, List.setIfInBounds_toArray, List.set_cons_zero, List.set_cons_succ]
                      exact hK'
                  apply Flow.move rfl
                  go_wp2_with fail
                  refine (when_any _ _ _).mono ?_
                  rintro e w' ⟨rfl, rfl⟩
                  go_wp2_with fail
                  refine ⟨fun _ => (by first | exact HB3 | exact Bl.refl _), ?_⟩
                  apply Flow.move rfl
                  go_wp2_with fail
                  first | refine ⟨fun _ => ?_, ?_⟩ | refine ⟨?_, ?_⟩
                  · repeat' (first | exact Bl.refl _ | refine Bl.drewL ?_ | refine Bl.drew ?_ | refine Bl.alloc ?_ _)
                  apply Flow.move rfl
                  go_wp2_with fail
                  first | refine (first2_any _ _ _ _ (Blk.new _ _ _).drew).mono ?_ | refine (first2_any _ _ _ _ (Blk.new _ _ _)).mono ?_
                  rintro e w' ⟨rfl, rfl⟩
                  go_wp2_with fail
                  refine ⟨fun _ => (by first | exact HB5 | exact Bl.refl _), ?_⟩
                  iterate 1
                    apply Flow.asg _ rfl
                    · intro K' hK'
                      simp only [Act.put, Act.eval, List.setIfInBounds_toArray, List.set_cons_zero, List.set_cons_succ, arr_getD, List.getD_cons_zero, List.getD_cons_succ]
                      exact hK'
                  refine Flow.done ?_
                  go_wp2_with fail
                  go_meet
                  case rel => exact ⟨by rw [← hf], by first | exact (Bl.ofDrew HB1).alloc _ | exact ((Bl.ofDrew HB1).alloc _).drew⟩
                case rest =>
                  obtain ⟨rfl, hbc4⟩ := hcut
                  rename World => w10
                  have hb10 := hb9.trans hbc4
                  go_upto_region 17 with fail
                  go_cut [149] from 126 to 149 (fun s149 wc => s149 = .bool false ∧ Bl w10 wc)
                  case first =>
                    by_cases hz : E2 = 0
                    · obtain ⟨Wn, Hn, yn, rfl, rfl, rfl, rfl, hW4, hH4, hy⟩ := runs_zero (HE2.out.symm.trans hz)
                      have k5 := (w25.bl hb10).all3
                      obtain ⟨hm2, hrd, -⟩ := HOk.out hz
                      simp only [Int.toNat_natCast] at hm2 hrd
                      have hro := runsOf_any Wn Hn A ac bs yn w10 (HA.out.bl hb10) hW4 hH4 hy
                      obtain ⟨rl, hrl⟩ : ∃ x, x = runsL (fun x => pix bs Wn x yn) Wn := ⟨_, rfl⟩
                      unfold RunsOfRes at hro
                      rw [← hrl] at hro hrd hm2
                      subst hm2
                      have hrln : rl.length ≤ 4001 := by
                        rw [hrl]
                        unfold runsL
                        have := (runsTo_le (fun x => pix bs Wn x yn) Wn).1
                        rw [List.length_append, List.length_singleton]
                        omega
                      have Hro := Lib.hid hro; have HRd := Lib.hid hrd
                      subst hz
                      clear hrd hro hrl
                      go_wp2_with fail
                      refine Hro.out.mono ?_
                      rintro e w11 ⟨R3, d3, rfl, hr3, hb11, -⟩
                      have heq := equalInts_any R2 R3 d2 d3 (rl.map fun (n : Nat) => (n : Int)) (rl.map fun (n : Nat) => (n : Int)) w11 (by rw [List.length_map, ← nat_cells]; exact HRd.out.bl (hbc4.trans hb11)) (by rw [List.length_map, ← nat_cells]; exact hr3) (by rw [List.length_map]; omega)
                      rw [List.length_map, decide_eq_true rfl] at heq
                      have Heq := Lib.hid heq
                      clear heq hr3 Hro k5
                      go_wp2_with fail
                      refine Heq.out.mono ?_
                      rintro e w12 ⟨rfl, hb12⟩
                      go_wp2_with fail
                      go_meet
                      case rel => exact ⟨by first | rfl | simp, hb11.trans hb12⟩
                    · obtain ⟨rfl, rfl⟩ := HBad.out hz
                      have hq : (E2 != 0) = true := by simp [hz]
                      have hq2 : (E2 == 0) = false := by simp [hz]
                      clear hz
                      go_wp2_with fail
                      go_meet
                      case rel => exact ⟨by first | rfl | simp, Bl.refl _⟩
                  case rest =>
                    obtain ⟨rfl, hbc5⟩ := hcut
                    rename World => w11
                    have hb11 := hb10.trans hbc5
                    have hun := units_any zs L lc kind w11 (HX.out.bl hb11) hzn hlc
                    unfold UnitsRes at hun
                    obtain ⟨T, hT⟩ : ∃ T, T = (if unitErr zs kind = 0 then unitsTo zs kind (clipSum zs zs.length) zs.length else []) := ⟨_, rfl⟩
                    obtain ⟨E3, hE3⟩ : ∃ x, x = unitErr zs kind := ⟨_, rfl⟩
                    rw [← hT, ← hE3] at hun
                    have Hun := Lib.hid hun; have HT := Lib.hid hT; have HE3 := Lib.hid hE3
                    clear hun hT hE3 HBad HOk
                    go_wp2_with fail
                    refine Hun.out.mono ?_
                    rintro e w12 ⟨rfl, hb12⟩
                    have hb212 := hb11.trans hb12
                    have huo := unitsOf_any zs L lc kind w12 (HX.out.bl hb212) hzn hlc
                    unfold UnitsRes at huo
                    rw [← HT.out, ← HE3.out] at huo
                    have Huo := Lib.hid huo
                    clear huo Hun
                    go_wp2_with fail
                    refine Huo.out.mono ?_
                    rintro e w13 ⟨rfl, hb13⟩
                    go_wp2_with fail
                    go_ret
                    exact ⟨by first | rfl | simp, w2b.trans (hb212.trans hb13)⟩

end Go.Proofs.YtjelhdpcaileiaaDoor
