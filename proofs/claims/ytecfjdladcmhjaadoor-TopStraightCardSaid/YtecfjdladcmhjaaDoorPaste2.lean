/- Pasting in the reference; what both functions make. -/
import Derived.Test.YtecfjdladcmhjaaDoorPaste
namespace Go.Proofs.YtecfjdladcmhjaaDoor
open Go.RowKit

theorem pasteF_far {bs cs : List Bool} {bW bH cW cH : Nat} {x y : Int} {u v : Nat} (h : pix bs bW u v = false) (h2 : x < -(cW : Int) ∨ (bW : Int) < x ∨ y < -(cH : Int) ∨ (bH : Int) < y) : pasteF bs cs bW bH cW cH x y u v = false :=
  pasteF_apart h (by simp [isApart]; omega)
theorem pasteF_near {bs cs : List Bool} {bW bH cW cH : Nat} {x y : Int} {u v : Nat} (hu : u < bW) (hv : v < bH) (h : pix bs bW u v = false) : pasteF bs cs bW bH cW cH x y u v = atI cs cW cH ((u : Int) - x) ((v : Int) - y) := by
  cases ha : isApart bW bH cW cH x y
  · exact pasteF_at h ha
  · rw [pasteF_apart h ha, atI_out]
    simp [isApart] at ha
    omega

set_option maxRecDepth 100000 in
set_option maxHeartbeats 2000000 in
theorem pasteOf1_any (px pc pb py : Nat) (bW bH cW cH : Nat) (A C : Option Addr) (bc cc : Nat) (bs cs : List Bool) (x y : Int) (u v : Nat) (w : World)
    (h3 : Blk w px 3 #[.int .i64 x]) (h5 : Blk w pc 24 #[.int .i64 cW, .int .i64 cH, .slice C (cW * cH) cc]) (h1 : Blk w pb 24 #[.int .i64 bW, .int .i64 bH, .slice A (bW * bH) bc]) (h4 : Blk w py 3 #[.int .i64 y])
    (hA : Reads w 1 A (bW * bH) (bs.map .bool)) (hC : Reads w 1 C (cW * cH) (cs.map .bool)) (b1 : bW ≤ 4000) (b2 : bH ≤ 4000) (b3 : cW ≤ 4000) (b4 : cH ≤ 4000) (hu : u < bW) (hv : v < bH) :
    Calls Tryd.prog 200 #[.int .i64 u, .int .i64 v, .pointer (some ⟨px, 0, none⟩), .pointer (some ⟨pc, 0, none⟩), .pointer (some ⟨pb, 0, none⟩), .pointer (some ⟨py, 0, none⟩)] w
      fun e w' => e = .returned (.bool (pasteF bs cs bW bH cW cH x y u v)) ∧ Bl w w' := by
  have k1 := h1.all3
  have k3 := h3.all1
  have k4 := h4.all1
  have k5 := h5.all3
  have hat := atI_in bs bW bH u v hu hv
  have hA' := fun (w1 : World) (hb : Bl w w1) => at_any bW bH A bc bs u v w1 (hA.bl hb) b1 b2
  have hC' := fun (w1 : World) (hb : Bl w w1) => at_any cW cH C cc cs ((u : Int) - x) ((v : Int) - y) w1 (hC.bl hb) b3 b4
  have HA := Lib.hid hA'; have HC := Lib.hid hC'
  clear hA hC hA' hC'
  rw [hat] at HA
  clear hat
  cases hp : pix bs bW u v
  case true =>
    have hf := pasteF_pix (cs := cs) (bH := bH) (cW := cW) (cH := cH) (x := x) (y := y) hp
    rw [hp] at HA
    have Hf := Lib.hid hf; have Hp := Lib.hid hp
    clear hf hp
    cases n1 : inB x (-(cW : Int)) bW <;> cases n2 : inB y (-(cH : Int)) bH
    all_goals
      go_enter Tryd.func200, Tryd.ntmps200
      go_wp2_with (first | (go_at_call 46; refine (in_any _ _ _ _).mono ?_; rintro e w' ⟨rfl, rfl⟩) | (go_at_call 103; refine (HA.out _ (Bl.refl _)).mono ?_; rintro e w1 ⟨rfl, hb1⟩))
      go_ret
      exact ⟨ret_bool Hf.out.symm, hb1⟩
  case false =>
    rw [hp] at HA
    cases n1 : inB x (-(cW : Int)) bW
    case false =>
      have hf := pasteF_far (cs := cs) (bH := bH) (cW := cW) (cH := cH) (x := x) (y := y) hp (by have := inB_false.1 n1; omega)
      have Hf := Lib.hid hf; have Hp := Lib.hid hp
      clear hf hp
      go_enter Tryd.func200, Tryd.ntmps200
      go_wp2_with (first | (go_at_call 46; refine (in_any _ _ _ _).mono ?_; rintro e w' ⟨rfl, rfl⟩) | (go_at_call 103; refine (HA.out _ (Bl.refl _)).mono ?_; rintro e w1 ⟨rfl, hb1⟩))
      go_ret
      exact ⟨ret_bool Hf.out.symm, hb1⟩
    case true =>
      cases n2 : inB y (-(cH : Int)) bH
      case false =>
        have hf := pasteF_far (cs := cs) (bH := bH) (cW := cW) (cH := cH) (x := x) (y := y) hp (by have := inB_false.1 n2; omega)
        have Hf := Lib.hid hf; have Hp := Lib.hid hp
        clear hf hp
        go_enter Tryd.func200, Tryd.ntmps200
        go_wp2_with (first | (go_at_call 46; refine (in_any _ _ _ _).mono ?_; rintro e w' ⟨rfl, rfl⟩) | (go_at_call 103; refine (HA.out _ (Bl.refl _)).mono ?_; rintro e w1 ⟨rfl, hb1⟩))
        go_ret
        exact ⟨ret_bool Hf.out.symm, hb1⟩
      case true =>
        have hf := pasteF_near (cs := cs) (cW := cW) (cH := cH) (x := x) (y := y) hu hv hp
        have r1 := inB_true.1 n1
        have r2 := inB_true.1 n2
        have Hf := Lib.hid hf; have Hp := Lib.hid hp
        clear hf hp
        go_enter Tryd.func200, Tryd.ntmps200
        go_wp2_with (first | (go_at_call 46; refine (in_any _ _ _ _).mono ?_; rintro e w' ⟨rfl, rfl⟩))
        refine (HA.out _ (Bl.refl _)).mono ?_
        rintro e w1 ⟨rfl, hb1⟩
        have k1' := (h1.bl hb1).all3
        have k3' := (h3.bl hb1).all1
        have k4' := (h4.bl hb1).all1
        have k5' := (h5.bl hb1).all3
        go_wp2_with fail
        refine (HC.out _ hb1).mono ?_
        rintro e w2 ⟨rfl, hb2⟩
        go_wp2_with fail
        go_ret
        exact ⟨ret_bool (by rw [Hf.out]), hb1.trans hb2⟩

/-! ### page.Paste, bedref2.PasteOf -/
set_option maxRecDepth 100000 in
set_option maxHeartbeats 2000000 in
theorem pasteOf_any (bW bH cW cH : Nat) (bv cv : Value) (bs cs : List Bool) (x y : Int) (w : World) (hA : IsPage w bv bW bH (bs.map .bool)) (hC : IsPage w cv cW cH (cs.map .bool))
    (b1 : bW ≤ 4000) (b2 : bH ≤ 4000) (b3 : cW ≤ 4000) (b4 : cH ≤ 4000) :
    Calls Tryd.prog 164 #[bv, cv, .int .i64 x, .int .i64 y] w fun e w' => ∃ v, e = .returned v ∧ NPage w.heap.size w' v bW bH ((grid bW bH (pasteF bs cs bW bH cW cH x y)).map .bool) ∧ Bl w w' := by
  obtain ⟨A, bc, rfl, hA⟩ := hA
  obtain ⟨C, cc, rfl, hC⟩ := hC
  have hbd : bW * bH ≤ 16000000 := by have := Nat.mul_le_mul b1 b2; omega
  have hr : ∃ r, r = Value.agg #[.int .i64 0, .int .i64 0, .slice none 0 0] := ⟨_, rfl⟩
  let w5 := ((((w.alloc (.cells #[.int .i64 bW, .int .i64 bH, .slice A (bW * bH) bc] 24)).alloc (.cells #[.int .i64 cW, .int .i64 cH, .slice C (cW * cH) cc] 24)).alloc (.cells #[.int .i64 x] 3)).alloc (.cells #[.int .i64 y] 3)).alloc (.cells #[.int .i64 0, .int .i64 0, .slice none 0 0] 24)
  have hb5 : Bl w w5 := (((((Bl.refl w).alloc _).alloc _).alloc _).alloc _).alloc _
  have q1 : Blk w5 w.heap.size 24 #[.int .i64 bW, .int .i64 bH, .slice A (bW * bH) bc] := ((((Blk.new w _ _).alloc _).alloc _).alloc _).alloc _
  have q2 : Blk w5 (w.heap.size + 1) 24 #[.int .i64 cW, .int .i64 cH, .slice C (cW * cH) cc] := by
    have := Blk.new (w.alloc (.cells #[.int .i64 bW, .int .i64 bH, .slice A (bW * bH) bc] 24)) 24 #[.int .i64 cW, .int .i64 cH, .slice C (cW * cH) cc]
    simp only [World.size_alloc] at this
    exact (((this).alloc _).alloc _).alloc _
  have q3 : Blk w5 (w.heap.size + 1 + 1) 3 #[.int .i64 x] := by
    have := Blk.new ((w.alloc (.cells #[.int .i64 bW, .int .i64 bH, .slice A (bW * bH) bc] 24)).alloc (.cells #[.int .i64 cW, .int .i64 cH, .slice C (cW * cH) cc] 24)) 3 #[.int .i64 x]
    simp only [World.size_alloc] at this
    exact ((this).alloc _).alloc _
  have q4 : Blk w5 (w.heap.size + 1 + 1 + 1) 3 #[.int .i64 y] := by
    have := Blk.new (((w.alloc (.cells #[.int .i64 bW, .int .i64 bH, .slice A (bW * bH) bc] 24)).alloc (.cells #[.int .i64 cW, .int .i64 cH, .slice C (cW * cH) cc] 24)).alloc (.cells #[.int .i64 x] 3)) 3 #[.int .i64 y]
    simp only [World.size_alloc] at this
    exact (this).alloc _
  have hP : Paints Tryd.prog 200 #[.pointer (some ⟨w.heap.size + 1 + 1, 0, none⟩), .pointer (some ⟨w.heap.size + 1, 0, none⟩), .pointer (some ⟨w.heap.size, 0, none⟩), .pointer (some ⟨w.heap.size + 1 + 1 + 1, 0, none⟩)] Value.bool w5 bW bH (pasteF bs cs bW bH cW cH x y) :=
    ⟨enters Tryd.func200 (by kernel_rfl) rfl, fun wx u v hb hu hv => pasteOf1_any _ _ _ _ bW bH cW cH A C bc cc bs cs x y u v wx (q3.bl hb) (q2.bl hb) (q1.bl hb) (q4.bl hb) ((hA.bl hb5).bl hb) ((hC.bl hb5).bl hb) b1 b2 b3 b4 hu hv⟩
  have HP := Lib.hid hP
  have kr : Blk w5 (w.heap.size + 1 + 1 + 1 + 1) 24 #[.int .i64 0, .int .i64 0, .slice none 0 0] := by
    have := Blk.new ((((w.alloc (.cells #[.int .i64 bW, .int .i64 bH, .slice A (bW * bH) bc] 24)).alloc (.cells #[.int .i64 cW, .int .i64 cH, .slice C (cW * cH) cc] 24)).alloc (.cells #[.int .i64 x] 3)).alloc (.cells #[.int .i64 y] 3)) 24 #[.int .i64 0, .int .i64 0, .slice none 0 0]
    simpa only [World.size_alloc] using this
  have Hq1 := Lib.hid q1; have Hq2 := Lib.hid q2
  clear hP q1 q2 q3 q4 hr
  go_enter Tryd.func164, Tryd.ntmps164
  go_wp2_with fail
  refine (Made_any bW bH _ _ _ w5 (by omega) (by omega) (by omega) HP.out).mono ?_
  rintro e w6 ⟨r, rfl, hpg, hb6⟩
  have kr' := (kr.bl hb6)
  have kr3 := kr'.all3
  obtain ⟨R, rc, rfl, hR, hRn⟩ := hpg
  go_wp2_with fail
  refine bodyPost_ret (v := .agg #[.int .i64 bW, .int .i64 bH, .slice R (bW * bH) rc]) (by simp [results, Tryd.results164, go_sem, kr3]) rfl ⟨_, rfl, ⟨R, rc, rfl, ?_, fun ad h => Nat.le_trans hb5.le (hRn ad h)⟩, ?_⟩
  · have hsz : w5.heap.size = w.heap.size + 5 := by simp [w5]
    rw [hsz] at hRn
    exact ((hR.store hRn (by simp) _).store hRn (by simp) _).store hRn (by simp) _
  · exact ((((hb5.trans hb6).setCell (by simp; omega) _).setCell (by simp; omega) _).setCell (by simp; omega) _)

end Go.Proofs.YtecfjdladcmhjaaDoor
