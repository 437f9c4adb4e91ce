/- page.Paste. -/
import Derived.Test.YtkhajhcfplicpaaDoorS1

namespace Go.Proofs.YtkhajhcfplicpaaDoor
open Go.RowKit

/-! ### plain -/
def isApart (bW bH cW cH : Nat) (x y : Int) : Bool := decide (x ≤ -(cW : Int)) || decide ((bW : Int) ≤ x) || decide (y ≤ -(cH : Int)) || decide ((bH : Int) ≤ y)
def pasteF (bs cs : List Bool) (bW bH cW cH : Nat) (x y : Int) (u v : Nat) : Bool := pix bs bW u v || (!isApart bW bH cW cH x y && atI cs cW cH ((u : Int) - x) ((v : Int) - y))
theorem isApart_false {bW bH cW cH : Nat} {x y : Int} (h : isApart bW bH cW cH x y = false) : -(cW : Int) < x ∧ x < bW ∧ -(cH : Int) < y ∧ y < bH := by
  simp [isApart] at h; omega
theorem pasteF_pix {bs cs : List Bool} {bW bH cW cH : Nat} {x y : Int} {u v : Nat} (h : pix bs bW u v = true) : pasteF bs cs bW bH cW cH x y u v = true := by simp [pasteF, h]
theorem pasteF_apart {bs cs : List Bool} {bW bH cW cH : Nat} {x y : Int} {u v : Nat} (h : pix bs bW u v = false) (h2 : isApart bW bH cW cH x y = true) : pasteF bs cs bW bH cW cH x y u v = false := by simp [pasteF, h, h2]
theorem pasteF_at {bs cs : List Bool} {bW bH cW cH : Nat} {x y : Int} {u v : Nat} (h : pix bs bW u v = false) (h2 : isApart bW bH cW cH x y = false) : pasteF bs cs bW bH cW cH x y u v = atI cs cW cH ((u : Int) - x) ((v : Int) - y) := by simp [pasteF, h, h2]

/-! ### the program's closure -/
set_option maxRecDepth 100000 in
set_option maxHeartbeats 2000000 in
theorem paste1_any (pb pa px py pc : Nat) (bW bH cW cH : Nat) (A C : Option Addr) (bc cc : Nat) (bs cs : List Bool) (x y : Int) (u v : Nat) (w : World)
    (h1 : Blk w pb 24 #[.int .i64 bW, .int .i64 bH, .slice A (bW * bH) bc]) (h2 : Blk w pa 4 #[.bool (isApart bW bH cW cH x y)]) (h3 : Blk w px 3 #[.int .i64 x]) (h4 : Blk w py 3 #[.int .i64 y])
    (h5 : Blk w pc 24 #[.int .i64 cW, .int .i64 cH, .slice C (cW * cH) cc])
    (hA : Reads w 1 A (bW * bH) (bs.map .bool)) (hC : Reads w 1 C (cW * cH) (cs.map .bool)) (b1 : bW ≤ 4000) (b2 : bH ≤ 4000) (b3 : cW ≤ 4000) (b4 : cH ≤ 4000) (hu : u < bW) (hv : v < bH) :
    Calls Tryd.prog 141 #[.int .i64 u, .int .i64 v, .pointer (some ⟨pb, 0, none⟩), .pointer (some ⟨pa, 0, none⟩), .pointer (some ⟨px, 0, none⟩), .pointer (some ⟨py, 0, none⟩), .pointer (some ⟨pc, 0, none⟩)] w
      fun e w' => e = .returned (.bool (pasteF bs cs bW bH cW cH x y u v)) ∧ Bl w w' := by
  have k1 := h1.all3
  have k2 := h2.all1
  have k3 := h3.all1
  have k4 := h4.all1
  have k5 := h5.all3
  obtain ⟨ad, rfl, hc⟩ := hA.place hu hv
  have hk := place_lt hu hv
  obtain ⟨k, hkk⟩ : ∃ k, k = v * bW + u := ⟨_, rfl⟩
  rw [← hkk] at hc hk
  have ek : (v : Int) * (bW : Int) + (u : Int) = (k : Int) := by rw [hkk]; simp
  have hkl : (k : Int) < (bW : Int) * (bH : Int) := by have := Int.natCast_mul bW bH; omega
  have hq : (0 : Int) ≤ (v : Int) * (bW : Int) ∧ (v : Int) * (bW : Int) ≤ 16000000 := by
    have h5 := Int.natCast_mul v bW
    have h6 := Nat.mul_le_mul (show v ≤ 4000 by omega) b1
    omega
  have Hkk := Lib.hid hkk
  clear hkk h1 h2 h3 h4 h5 hA
  cases hp : pix bs bW u v
  case true =>
    have hf := pasteF_pix (cs := cs) (bH := bH) (cW := cW) (cH := cH) (x := x) (y := y) hp
    rw [hp] at hc
    have Hf := Lib.hid hf; have Hp := Lib.hid hp
    clear hf hp hC
    go_enter Tryd.func141, Tryd.ntmps141
    go_wp2
    go_ret
    exact ⟨ret_bool Hf.out.symm, Bl.refl _⟩
  case false =>
    rw [hp] at hc
    cases ha : isApart bW bH cW cH x y
    case true =>
      have hf := pasteF_apart (cs := cs) hp ha
      rw [ha] at k2
      have Hf := Lib.hid hf; have Hp := Lib.hid hp; have Ha := Lib.hid ha
      clear hf hp ha hC
      go_enter Tryd.func141, Tryd.ntmps141
      go_wp2
      go_ret
      exact ⟨ret_bool Hf.out.symm, Bl.refl _⟩
    case false =>
      have hf := pasteF_at (cs := cs) hp ha
      obtain ⟨r1, r2, r3, r4⟩ := isApart_false ha
      rw [ha] at k2
      have Hf := Lib.hid hf; have Hp := Lib.hid hp; have Ha := Lib.hid ha
      clear hf hp ha
      by_cases c1 : 0 ≤ (u : Int) - x ∧ (u : Int) - x < cW ∧ 0 ≤ (v : Int) - y ∧ (v : Int) - y < cH
      · obtain ⟨c1, c2, c3, c4⟩ := c1
        obtain ⟨X, hX⟩ := Int.eq_ofNat_of_zero_le c1
        obtain ⟨Y, hY⟩ := Int.eq_ofNat_of_zero_le c3
        have hXl : X < cW := by omega
        have hYl : Y < cH := by omega
        have hat := atI_in cs cW cH X Y hXl hYl
        rw [← hX, ← hY] at hat
        obtain ⟨cd, rfl, hd⟩ := hC.place hXl hYl
        have hj := place_lt hXl hYl
        obtain ⟨j, hjj⟩ : ∃ j, j = Y * cW + X := ⟨_, rfl⟩
        rw [← hjj] at hd hj
        have ej : ((v : Int) - y) * (cW : Int) + ((u : Int) - x) = (j : Int) := by rw [hjj, hX, hY]; simp
        have hjl : (j : Int) < (cW : Int) * (cH : Int) := by have := Int.natCast_mul cW cH; omega
        have hqj : (0 : Int) ≤ ((v : Int) - y) * (cW : Int) ∧ ((v : Int) - y) * (cW : Int) ≤ 16000000 := by
          have h5 := Int.natCast_mul Y cW
          have h6 := Nat.mul_le_mul (show Y ≤ 4000 by omega) b3
          rw [hY]; omega
        have Hat := Lib.hid hat; have HX := Lib.hid hX; have HY := Lib.hid hY; have Hjj := Lib.hid hjj
        clear hat hX hY hjj hC
        go_enter Tryd.func141, Tryd.ntmps141
        go_wp2_with fail
        refine wp_region_flow [(true, 0), (true, 1), (true, 2), (true, 3), (true, 4), (true, 5), (true, 6), (true, 7)] (fun _ => false) (by kernel_rfl) (by kernel_rfl) (by kernel_rfl) (by kernel_rfl) ?_
        iterate 1
          apply Flow.mv _ rfl
          · intro K' hK'
            simp only [Act.put, Act.eval, List.setIfInBounds_toArray, List.set_cons_zero, List.set_cons_succ, arr_getD, List.getD_cons_zero]
            exact hK'
        iterate 1
          apply Flow.calm2 _ _ rfl rfl
          · intro w' hb' K' hK'
            obtain ⟨hc', hf'⟩ := hb'.rule
            go_simp
            try go_ints
            exact hK'
          · intro K' hK'
            simp only [Act.put, List.setIfInBounds_toArray, List.set_cons_zero, List.set_cons_succ]
            exact hK'
        iterate 1
          apply Flow.calm2 _ _ rfl rfl
          · intro w' hb' K' hK'
            obtain ⟨hc', hf'⟩ := hb'.rule
            go_simp
            try go_ints
            exact hK'
          · intro K' hK'
            simp only [Act.put, List.setIfInBounds_toArray, List.set_cons_zero, List.set_cons_succ]
            exact hK'
        iterate 1
          apply Flow.mv _ rfl
          · intro K' hK'
            simp only [Act.put, Act.eval, List.setIfInBounds_toArray, List.set_cons_zero, List.set_cons_succ, arr_getD, List.getD_cons_zero, List.getD_cons_succ]
            exact hK'
        iterate 1
          apply Flow.calm2 _ _ rfl rfl
          · intro w' hb' K' hK'
            obtain ⟨hc', hf'⟩ := hb'.rule
            go_simp
            try go_ints
            exact hK'
          · intro K' hK'
            simp only [Act.put, List.setIfInBounds_toArray, List.set_cons_zero, List.set_cons_succ]
            exact hK'
        iterate 1
          apply Flow.calm2 _ _ rfl rfl
          · intro w' hb' K' hK'
            obtain ⟨hc', hf'⟩ := hb'.rule
            go_simp
            try go_ints
            exact hK'
          · intro K' hK'
            simp only [Act.put, List.setIfInBounds_toArray, List.set_cons_zero, List.set_cons_succ]
            exact hK'
        iterate 2
          apply Flow.asg _ rfl
          · intro K' hK'
            simp only [Act.put, Act.eval, List.setIfInBounds_toArray, List.set_cons_zero, List.set_cons_succ, arr_getD, List.getD_cons_zero, List.getD_cons_succ]
            exact hK'
        refine Flow.done ?_
        go_wp2_with fail
        go_ret
        exact ⟨ret_bool (by rw [Hf.out, Hat.out]), (Bl.refl _).drew⟩
      · have hat := atI_out cs cW cH ((u : Int) - x) ((v : Int) - y) c1
        have Hat := Lib.hid hat
        clear hat hC
        have hcase : (u : Int) - x < 0 ∨ (0 ≤ (u : Int) - x ∧ (cW : Int) ≤ (u : Int) - x) ∨ (0 ≤ (u : Int) - x ∧ (u : Int) - x < cW ∧ (v : Int) - y < 0) ∨ (0 ≤ (u : Int) - x ∧ (u : Int) - x < cW ∧ 0 ≤ (v : Int) - y ∧ (cH : Int) ≤ (v : Int) - y) := by omega
        clear c1
        rcases hcase with d | ⟨d, d'⟩ | ⟨d, d', d''⟩ | ⟨d, d', d'', d'''⟩
        all_goals
          go_enter Tryd.func141, Tryd.ntmps141
          go_wp2_with fail
          refine wp_region_flow [(true, 0), (true, 1), (true, 2), (true, 3), (true, 4), (true, 5), (true, 6), (true, 7)] (fun _ => false) (by kernel_rfl) (by kernel_rfl) (by kernel_rfl) (by kernel_rfl) ?_
          iterate 1
            apply Flow.mv _ rfl
            · intro K' hK'
              simp only [Act.put, Act.eval, List.setIfInBounds_toArray, List.set_cons_zero, List.set_cons_succ, arr_getD, List.getD_cons_zero]
              exact hK'
          iterate 1
            apply Flow.calm2 _ _ rfl rfl
            · intro w' hb' K' hK'
              obtain ⟨hc', hf'⟩ := hb'.rule
              go_simp
              try go_ints
              exact hK'
            · intro K' hK'
              simp only [Act.put, List.setIfInBounds_toArray, List.set_cons_zero, List.set_cons_succ]
              exact hK'
          iterate 1
            apply Flow.calm2 _ _ rfl rfl
            · intro w' hb' K' hK'
              obtain ⟨hc', hf'⟩ := hb'.rule
              go_simp
              try go_ints
              exact hK'
            · intro K' hK'
              simp only [Act.put, List.setIfInBounds_toArray, List.set_cons_zero, List.set_cons_succ]
              exact hK'
          iterate 1
            apply Flow.mv _ rfl
            · intro K' hK'
              simp only [Act.put, Act.eval, List.setIfInBounds_toArray, List.set_cons_zero, List.set_cons_succ, arr_getD, List.getD_cons_zero, List.getD_cons_succ]
              exact hK'
          iterate 1
            apply Flow.calm2 _ _ rfl rfl
            · intro w' hb' K' hK'
              obtain ⟨hc', hf'⟩ := hb'.rule
              go_simp
              try go_ints
              exact hK'
            · intro K' hK'
              simp only [Act.put, List.setIfInBounds_toArray, List.set_cons_zero, List.set_cons_succ]
              exact hK'
          iterate 1
            apply Flow.calm2 _ _ rfl rfl
            · intro w' hb' K' hK'
              obtain ⟨hc', hf'⟩ := hb'.rule
              go_simp
              try go_ints
              exact hK'
            · intro K' hK'
              simp only [Act.put, List.setIfInBounds_toArray, List.set_cons_zero, List.set_cons_succ]
              exact hK'
          iterate 2
            apply Flow.asg _ rfl
            · intro K' hK'
              simp only [Act.put, Act.eval, List.setIfInBounds_toArray, List.set_cons_zero, List.set_cons_succ, arr_getD, List.getD_cons_zero, List.getD_cons_succ]
              exact hK'
          refine Flow.done ?_
          go_wp2_with fail
          go_ret
          exact ⟨ret_bool (by rw [Hf.out, Hat.out]), (Bl.refl _).drew⟩

end Go.Proofs.YtkhajhcfplicpaaDoor


/-! Pasting in the reference; what both functions make. -/
namespace Go.Proofs.YtkhajhcfplicpaaDoor
open Go.RowKit

theorem pasteF_far {bs cs : List Bool} {bW bH cW cH : Nat} {x y : Int} {u v : Nat} (h : pix bs bW u v = false) (h2 : x < -(cW : Int) ∨ (bW : Int) < x ∨ y < -(cH : Int) ∨ (bH : Int) < y) : pasteF bs cs bW bH cW cH x y u v = false :=
  pasteF_apart h (by simp [isApart]; omega)
theorem pasteF_near {bs cs : List Bool} {bW bH cW cH : Nat} {x y : Int} {u v : Nat} (hu : u < bW) (hv : v < bH) (h : pix bs bW u v = false) : pasteF bs cs bW bH cW cH x y u v = atI cs cW cH ((u : Int) - x) ((v : Int) - y) := by
  cases ha : isApart bW bH cW cH x y
  · exact pasteF_at h ha
  · rw [pasteF_apart h ha, atI_out]
    simp [isApart] at ha
    omega

set_option maxRecDepth 100000 in
set_option maxHeartbeats 2000000 in
theorem pasteOf1_any (px pc pb py : Nat) (bW bH cW cH : Nat) (A C : Option Addr) (bc cc : Nat) (bs cs : List Bool) (x y : Int) (u v : Nat) (w : World)
    (h3 : Blk w px 3 #[.int .i64 x]) (h5 : Blk w pc 24 #[.int .i64 cW, .int .i64 cH, .slice C (cW * cH) cc]) (h1 : Blk w pb 24 #[.int .i64 bW, .int .i64 bH, .slice A (bW * bH) bc]) (h4 : Blk w py 3 #[.int .i64 y])
    (hA : Reads w 1 A (bW * bH) (bs.map .bool)) (hC : Reads w 1 C (cW * cH) (cs.map .bool)) (b1 : bW ≤ 4000) (b2 : bH ≤ 4000) (b3 : cW ≤ 4000) (b4 : cH ≤ 4000) (hu : u < bW) (hv : v < bH) :
    Calls Tryd.prog 252 #[.int .i64 u, .int .i64 v, .pointer (some ⟨px, 0, none⟩), .pointer (some ⟨pc, 0, none⟩), .pointer (some ⟨pb, 0, none⟩), .pointer (some ⟨py, 0, none⟩)] w
      fun e w' => e = .returned (.bool (pasteF bs cs bW bH cW cH x y u v)) ∧ Bl w w' := by
  have k1 := h1.all3
  have k3 := h3.all1
  have k4 := h4.all1
  have k5 := h5.all3
  have hat := atI_in bs bW bH u v hu hv
  have hA' := fun (w1 : World) (hb : Bl w w1) => at_any bW bH A bc bs u v w1 (hA.bl hb) b1 b2
  have hC' := fun (w1 : World) (hb : Bl w w1) => at_any cW cH C cc cs ((u : Int) - x) ((v : Int) - y) w1 (hC.bl hb) b3 b4
  have HA := Lib.hid hA'; have HC := Lib.hid hC'
  clear hA hC hA' hC'
  rw [hat] at HA
  clear hat
  cases hp : pix bs bW u v
  case true =>
    have hf := pasteF_pix (cs := cs) (bH := bH) (cW := cW) (cH := cH) (x := x) (y := y) hp
    rw [hp] at HA
    have Hf := Lib.hid hf; have Hp := Lib.hid hp
    clear hf hp
    cases n1 : inB x (-(cW : Int)) bW <;> cases n2 : inB y (-(cH : Int)) bH
    all_goals
      go_enter Tryd.func252, Tryd.ntmps252
      go_wp2_with (first | (go_at_call 50; refine (in_any _ _ _ _).mono ?_; rintro e w' ⟨rfl, rfl⟩) | (go_at_call 130; refine (HA.out _ (Bl.refl _)).mono ?_; rintro e w1 ⟨rfl, hb1⟩))
      go_ret
      exact ⟨ret_bool Hf.out.symm, hb1⟩
  case false =>
    rw [hp] at HA
    cases n1 : inB x (-(cW : Int)) bW
    case false =>
      have hf := pasteF_far (cs := cs) (bH := bH) (cW := cW) (cH := cH) (x := x) (y := y) hp (by have := inB_false.1 n1; omega)
      have Hf := Lib.hid hf; have Hp := Lib.hid hp
      clear hf hp
      go_enter Tryd.func252, Tryd.ntmps252
      go_wp2_with (first | (go_at_call 50; refine (in_any _ _ _ _).mono ?_; rintro e w' ⟨rfl, rfl⟩) | (go_at_call 130; refine (HA.out _ (Bl.refl _)).mono ?_; rintro e w1 ⟨rfl, hb1⟩))
      go_ret
      exact ⟨ret_bool Hf.out.symm, hb1⟩
    case true =>
      cases n2 : inB y (-(cH : Int)) bH
      case false =>
        have hf := pasteF_far (cs := cs) (bH := bH) (cW := cW) (cH := cH) (x := x) (y := y) hp (by have := inB_false.1 n2; omega)
        have Hf := Lib.hid hf; have Hp := Lib.hid hp
        clear hf hp
        go_enter Tryd.func252, Tryd.ntmps252
        go_wp2_with (first | (go_at_call 50; refine (in_any _ _ _ _).mono ?_; rintro e w' ⟨rfl, rfl⟩) | (go_at_call 130; refine (HA.out _ (Bl.refl _)).mono ?_; rintro e w1 ⟨rfl, hb1⟩))
        go_ret
        exact ⟨ret_bool Hf.out.symm, hb1⟩
      case true =>
        have hf := pasteF_near (cs := cs) (cW := cW) (cH := cH) (x := x) (y := y) hu hv hp
        have r1 := inB_true.1 n1
        have r2 := inB_true.1 n2
        have Hf := Lib.hid hf; have Hp := Lib.hid hp
        clear hf hp
        go_enter Tryd.func252, Tryd.ntmps252
        go_wp2_with (first | (go_at_call 50; refine (in_any _ _ _ _).mono ?_; rintro e w' ⟨rfl, rfl⟩))
        refine (HA.out _ (Bl.refl _)).mono ?_
        rintro e w1 ⟨rfl, hb1⟩
        have k1' := (h1.bl hb1).all3
        have k3' := (h3.bl hb1).all1
        have k4' := (h4.bl hb1).all1
        have k5' := (h5.bl hb1).all3
        go_wp2_with fail
        refine (HC.out _ hb1).mono ?_
        rintro e w2 ⟨rfl, hb2⟩
        go_wp2_with fail
        go_ret
        exact ⟨ret_bool (by rw [Hf.out]), hb1.trans hb2⟩

/-! ### page.Paste, bedref2.PasteOf -/
set_option maxRecDepth 100000 in
set_option maxHeartbeats 2000000 in
theorem pasteOf_any (bW bH cW cH : Nat) (bv cv : Value) (bs cs : List Bool) (x y : Int) (w : World) (hA : IsPage w bv bW bH (bs.map .bool)) (hC : IsPage w cv cW cH (cs.map .bool))
    (b1 : bW ≤ 4000) (b2 : bH ≤ 4000) (b3 : cW ≤ 4000) (b4 : cH ≤ 4000) :
    Calls Tryd.prog 192 #[bv, cv, .int .i64 x, .int .i64 y] w fun e w' => ∃ v, e = .returned v ∧ NPage w.heap.size w' v bW bH ((grid bW bH (pasteF bs cs bW bH cW cH x y)).map .bool) ∧ Bl w w' := by
  obtain ⟨A, bc, rfl, hA⟩ := hA
  obtain ⟨C, cc, rfl, hC⟩ := hC
  have hbd : bW * bH ≤ 16000000 := by have := Nat.mul_le_mul b1 b2; omega
  have hr : ∃ r, r = Value.agg #[.int .i64 0, .int .i64 0, .slice none 0 0] := ⟨_, rfl⟩
  let w5 := ((((w.alloc (.cells #[.int .i64 bW, .int .i64 bH, .slice A (bW * bH) bc] 24)).alloc (.cells #[.int .i64 cW, .int .i64 cH, .slice C (cW * cH) cc] 24)).alloc (.cells #[.int .i64 x] 3)).alloc (.cells #[.int .i64 y] 3)).alloc (.cells #[.int .i64 0, .int .i64 0, .slice none 0 0] 24)
  have hb5 : Bl w w5 := (((((Bl.refl w).alloc _).alloc _).alloc _).alloc _).alloc _
  have q1 : Blk w5 w.heap.size 24 #[.int .i64 bW, .int .i64 bH, .slice A (bW * bH) bc] := ((((Blk.new w _ _).alloc _).alloc _).alloc _).alloc _
  have q2 : Blk w5 (w.heap.size + 1) 24 #[.int .i64 cW, .int .i64 cH, .slice C (cW * cH) cc] := by
    have := Blk.new (w.alloc (.cells #[.int .i64 bW, .int .i64 bH, .slice A (bW * bH) bc] 24)) 24 #[.int .i64 cW, .int .i64 cH, .slice C (cW * cH) cc]
    simp only [World.size_alloc] at this
    exact (((this).alloc _).alloc _).alloc _
  have q3 : Blk w5 (w.heap.size + 1 + 1) 3 #[.int .i64 x] := by
    have := Blk.new ((w.alloc (.cells #[.int .i64 bW, .int .i64 bH, .slice A (bW * bH) bc] 24)).alloc (.cells #[.int .i64 cW, .int .i64 cH, .slice C (cW * cH) cc] 24)) 3 #[.int .i64 x]
    simp only [World.size_alloc] at this
    exact ((this).alloc _).alloc _
  have q4 : Blk w5 (w.heap.size + 1 + 1 + 1) 3 #[.int .i64 y] := by
    have := Blk.new (((w.alloc (.cells #[.int .i64 bW, .int .i64 bH, .slice A (bW * bH) bc] 24)).alloc (.cells #[.int .i64 cW, .int .i64 cH, .slice C (cW * cH) cc] 24)).alloc (.cells #[.int .i64 x] 3)) 3 #[.int .i64 y]
    simp only [World.size_alloc] at this
    exact (this).alloc _
  have hP : Paints Tryd.prog 252 #[.pointer (some ⟨w.heap.size + 1 + 1, 0, none⟩), .pointer (some ⟨w.heap.size + 1, 0, none⟩), .pointer (some ⟨w.heap.size, 0, none⟩), .pointer (some ⟨w.heap.size + 1 + 1 + 1, 0, none⟩)] Value.bool w5 bW bH (pasteF bs cs bW bH cW cH x y) :=
    ⟨enters Tryd.func252 (by kernel_rfl) rfl, fun wx u v hb hu hv => pasteOf1_any _ _ _ _ bW bH cW cH A C bc cc bs cs x y u v wx (q3.bl hb) (q2.bl hb) (q1.bl hb) (q4.bl hb) ((hA.bl hb5).bl hb) ((hC.bl hb5).bl hb) b1 b2 b3 b4 hu hv⟩
  have HP := Lib.hid hP
  have kr : Blk w5 (w.heap.size + 1 + 1 + 1 + 1) 24 #[.int .i64 0, .int .i64 0, .slice none 0 0] := by
    have := Blk.new ((((w.alloc (.cells #[.int .i64 bW, .int .i64 bH, .slice A (bW * bH) bc] 24)).alloc (.cells #[.int .i64 cW, .int .i64 cH, .slice C (cW * cH) cc] 24)).alloc (.cells #[.int .i64 x] 3)).alloc (.cells #[.int .i64 y] 3)) 24 #[.int .i64 0, .int .i64 0, .slice none 0 0]
    simpa only [World.size_alloc] using this
  have Hq1 := Lib.hid q1; have Hq2 := Lib.hid q2
  clear hP q1 q2 q3 q4 hr
  go_enter Tryd.func192, Tryd.ntmps192
  go_wp2_with fail
  refine (Made_any bW bH _ _ _ w5 (by omega) (by omega) (by omega) HP.out).mono ?_
  rintro e w6 ⟨r, rfl, hpg, hb6⟩
  have kr' := (kr.bl hb6)
  have kr3 := kr'.all3
  obtain ⟨R, rc, rfl, hR, hRn⟩ := hpg
  go_wp2_with fail
  refine bodyPost_ret (v := .agg #[.int .i64 bW, .int .i64 bH, .slice R (bW * bH) rc]) (by simp [results, Tryd.results192, go_sem, kr3]) rfl ⟨_, rfl, ⟨R, rc, rfl, ?_, fun ad h => Nat.le_trans hb5.le (hRn ad h)⟩, ?_⟩
  · have hsz : w5.heap.size = w.heap.size + 5 := by simp [w5]
    rw [hsz] at hRn
    exact ((hR.store hRn (by simp) _).store hRn (by simp) _).store hRn (by simp) _
  · exact ((((hb5.trans hb6).setCell (by simp; omega) _).setCell (by simp; omega) _).setCell (by simp; omega) _)

end Go.Proofs.YtkhajhcfplicpaaDoor


/-! page.Paste. -/
namespace Go.Proofs.YtkhajhcfplicpaaDoor
open Go.RowKit

set_option maxRecDepth 100000 in
set_option maxHeartbeats 2000000 in
theorem paste_ok (bW bH cW cH : Nat) (bv cv : Value) (bs cs : List Bool) (x y : Int) (w : World) (hA : IsPage w bv bW bH (bs.map .bool)) (hC : IsPage w cv cW cH (cs.map .bool))
    (e1 : sizeErr bW bH = 0) (e2 : sizeErr cW cH = 0) (_hx : -9223372036854775808 ≤ x ∧ x ≤ 9223372036854775807) (_hy : -9223372036854775808 ≤ y ∧ y ≤ 9223372036854775807) :
    Calls Tryd.prog 43 #[bv, cv, .int .i64 x, .int .i64 y] w fun e w' => ∃ v, e = .returned (.tuple #[v, .int .i64 0]) ∧ NPage w.heap.size w' v bW bH ((grid bW bH (pasteF bs cs bW bH cW cH x y)).map .bool) ∧ Bl w w' := by
  obtain ⟨A, bc, rfl, hA⟩ := hA
  obtain ⟨C, cc, rfl, hC⟩ := hC
  have z1 := sizeErr_zero e1
  have z2 := sizeErr_zero e2
  have p1 : pageErr bW bH (bW * bH) = 0 := by unfold pageErr; rw [if_pos e1, if_pos (by simp)]
  have p2 : pageErr cW cH (cW * cH) = 0 := by unfold pageErr; rw [if_pos e2, if_pos (by simp)]
  have hbd : bW * bH ≤ 1048576 := by have := Int.natCast_mul bW bH; omega
  have ub1 : 1 ≤ bW ∧ bW ≤ 4000 := by omega
  have ub2 : 1 ≤ bH ∧ bH ≤ 4000 := by omega
  have uc1 : 1 ≤ cW ∧ cW ≤ 4000 := by omega
  have uc2 : 1 ≤ cH ∧ cH ≤ 4000 := by omega
  have E1 := Lib.hid e1; have E2 := Lib.hid e2; have P1 := Lib.hid p1; have P2 := Lib.hid p2
  clear e1 e2 z1 z2
  let w6 := ((((((w).alloc (.cells #[.int .i64 bW, .int .i64 bH, .slice A (bW * bH) bc] 24)).alloc (.cells #[.int .i64 cW, .int .i64 cH, .slice C (cW * cH) cc] 24)).alloc (.cells #[.int .i64 x] 3)).alloc (.cells #[.int .i64 y] 3)).alloc (.cells #[.int .i64 0, .int .i64 0, .slice none 0 0] 24)).alloc (.cells #[.int .i64 bW, .int .i64 bH, .slice A (bW * bH) bc, .int .i64 cW, .int .i64 cH, .slice C (cW * cH) cc] 24)
  have w6b : Bl w w6 := ((((((Bl.refl w).alloc _).alloc _).alloc _).alloc _).alloc _).alloc _
  have w61 : Blk w6 (w.heap.size) 24 #[.int .i64 bW, .int .i64 bH, .slice A (bW * bH) bc] := by
    have h0 := Blk.new (w) 24 #[.int .i64 bW, .int .i64 bH, .slice A (bW * bH) bc]
    exact (((((h0.alloc _).alloc _).alloc _).alloc _).alloc _)
  have w62 : Blk w6 (w.heap.size + 1) 24 #[.int .i64 cW, .int .i64 cH, .slice C (cW * cH) cc] := by
    have h0 := Blk.new ((w).alloc (.cells #[.int .i64 bW, .int .i64 bH, .slice A (bW * bH) bc] 24)) 24 #[.int .i64 cW, .int .i64 cH, .slice C (cW * cH) cc]
    simp only [World.size_alloc] at h0
    exact ((((h0.alloc _).alloc _).alloc _).alloc _)
  have w63 : Blk w6 (w.heap.size + 1 + 1) 3 #[.int .i64 x] := by
    have h0 := Blk.new (((w).alloc (.cells #[.int .i64 bW, .int .i64 bH, .slice A (bW * bH) bc] 24)).alloc (.cells #[.int .i64 cW, .int .i64 cH, .slice C (cW * cH) cc] 24)) 3 #[.int .i64 x]
    simp only [World.size_alloc] at h0
    exact (((h0.alloc _).alloc _).alloc _)
  have w64 : Blk w6 (w.heap.size + 1 + 1 + 1) 3 #[.int .i64 y] := by
    have h0 := Blk.new ((((w).alloc (.cells #[.int .i64 bW, .int .i64 bH, .slice A (bW * bH) bc] 24)).alloc (.cells #[.int .i64 cW, .int .i64 cH, .slice C (cW * cH) cc] 24)).alloc (.cells #[.int .i64 x] 3)) 3 #[.int .i64 y]
    simp only [World.size_alloc] at h0
    exact ((h0.alloc _).alloc _)
  have w65 : Blk w6 (w.heap.size + 1 + 1 + 1 + 1) 24 #[.int .i64 0, .int .i64 0, .slice none 0 0] := by
    have h0 := Blk.new (((((w).alloc (.cells #[.int .i64 bW, .int .i64 bH, .slice A (bW * bH) bc] 24)).alloc (.cells #[.int .i64 cW, .int .i64 cH, .slice C (cW * cH) cc] 24)).alloc (.cells #[.int .i64 x] 3)).alloc (.cells #[.int .i64 y] 3)) 24 #[.int .i64 0, .int .i64 0, .slice none 0 0]
    simp only [World.size_alloc] at h0
    exact (h0.alloc _)
  have w66 : Blk w6 (w.heap.size + 1 + 1 + 1 + 1 + 1) 24 #[.int .i64 bW, .int .i64 bH, .slice A (bW * bH) bc, .int .i64 cW, .int .i64 cH, .slice C (cW * cH) cc] := by
    have h0 := Blk.new ((((((w).alloc (.cells #[.int .i64 bW, .int .i64 bH, .slice A (bW * bH) bc] 24)).alloc (.cells #[.int .i64 cW, .int .i64 cH, .slice C (cW * cH) cc] 24)).alloc (.cells #[.int .i64 x] 3)).alloc (.cells #[.int .i64 y] 3)).alloc (.cells #[.int .i64 0, .int .i64 0, .slice none 0 0] 24)) 24 #[.int .i64 bW, .int .i64 bH, .slice A (bW * bH) bc, .int .i64 cW, .int .i64 cH, .slice C (cW * cH) cc]
    simp only [World.size_alloc] at h0
    exact h0
  go_enter Tryd.func43, Tryd.ntmps43
  go_wp2_with fail
  refine wp_loop_rounds 3 ?_
  rw [rounds_succ]
  go_wp2_with fail
  refine (checkBits_any _ _ _ _ _ _).mono ?_
  rintro e w7 ⟨rfl, hb7⟩
  have hb67 : Bl w6 w7 := ((Bl.refl w6).alloc _).trans hb7
  have a6 := (w66.bl hb67).all6
  have l7 : w.heap.size + 5 < w7.heap.size := by have := (w66.bl hb67).lt; simpa using this
  go_wp2_with fail
  rw [rounds_succ]
  go_wp2_with fail
  refine (checkBits_any _ _ _ _ _ _).mono ?_
  rintro e w8 ⟨rfl, hb8⟩
  have hb68 : Bl w6 w8 := (hb67.alloc _).trans hb8
  have q1 := (w61.bl hb68).all3
  have q2 := (w62.bl hb68).all3
  have q3 := (w63.bl hb68).all1
  have q4 := (w64.bl hb68).all1
  have q5 := w65.bl hb68
  have hr := q5.all3
  have l1 := (w61.bl hb68).lt
  have l2 := (w62.bl hb68).lt
  have l3 := (w63.bl hb68).lt
  have l4 := (w64.bl hb68).lt
  have l5 := q5.lt
  have hPA := (hA.bl (w6b.trans hb68))
  have hPC := (hC.bl (w6b.trans hb68))
  have hb8w := w6b.trans hb68
  generalize hB1 : w61.bl hb68 = B1
  clear hB1 a6 l7
  have B2 := w62.bl hb68
  have B3 := w63.bl hb68
  have B4 := w64.bl hb68
  go_wp2_with fail
  rw [rounds_succ]
  have tok : True := trivial
  have hP := fun (ap : Bool) (hap : ap = isApart bW bH cW cH x y) => (⟨enters Tryd.func141 (by kernel_rfl) rfl, fun wx u v hb hu hv => by
    subst hap
    have hb' : Bl w8 wx := ((Bl.refl w8).alloc _).trans hb
    have q2 : Blk (w8.alloc (.cells #[.bool (isApart bW bH cW cH x y)] 4)) w8.heap.size 4 #[.bool (isApart bW bH cW cH x y)] := Blk.new _ _ _
    exact paste1_any _ _ _ _ _ bW bH cW cH A C bc cc bs cs x y u v wx (B1.bl hb') (q2.bl hb) (B3.bl hb') (B4.bl hb') (B2.bl hb') (hPA.bl hb') (hPC.bl hb') ub1.2 ub2.2 uc1.2 uc2.2 hu hv⟩ :
    Paints Tryd.prog 141 #[.pointer (some ⟨w.heap.size, 0, none⟩), .pointer (some ⟨w8.heap.size, 0, none⟩), .pointer (some ⟨w.heap.size + 1 + 1, 0, none⟩), .pointer (some ⟨w.heap.size + 1 + 1 + 1, 0, none⟩), .pointer (some ⟨w.heap.size + 1, 0, none⟩)] Value.bool (w8.alloc (.cells #[.bool ap] 4)) bW bH (pasteF bs cs bW bH cW cH x y))
  have HP := Lib.hid hP; clear hP
  have HPA := Lib.hid hPA; have HPC := Lib.hid hPC
  clear hPA hPC B1 B2 B3 B4
  go_wp2_with fail
  all_goals
    refine (made_any bW bH _ _ _ _ (by omega) (by omega) hbd (HP.out _ (by first | (unfold isApart; rfl) | (simp [isApart]; omega)))).mono ?_
    rintro e w9 ⟨r, rfl, hpg, hb9⟩
    have kr := ((q5.alloc _).bl hb9).all3
    obtain ⟨R, rc, rfl, hR, hRn⟩ := hpg
    have hb8' := hb8w.le
    have hRn' : ∀ ad, R = some ad → w.heap.size + 5 ≤ ad.block := fun ad h => by have := hRn ad h; simp at this; omega
    have HR := Lib.hid hR; have HRn := Lib.hid hRn'
    clear hR hRn hRn'
    go_wp2_with fail
    refine bodyPost_ret (v := .tuple #[.agg #[.int .i64 bW, .int .i64 bH, .slice R (bW * bH) rc], .int .i64 0]) (by simp [results, Tryd.results43, go_sem, kr]) rfl ⟨_, rfl, ⟨R, rc, rfl, ?_, fun ad h => by have := HRn.out ad h; omega⟩, ?_⟩
    · exact ((HR.out.store HRn.out (by simp) _).store HRn.out (by simp) _).store HRn.out (by simp) _
    · exact ((((hb8w.alloc _).trans hb9).setCell (by simp; omega) _).setCell (by simp; omega) _).setCell (by simp; omega) _

end Go.Proofs.YtkhajhcfplicpaaDoor
