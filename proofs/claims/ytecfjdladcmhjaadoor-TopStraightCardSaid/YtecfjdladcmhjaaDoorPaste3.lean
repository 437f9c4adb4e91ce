/- page.Paste. -/
import Derived.Test.YtecfjdladcmhjaaDoorPaste2
namespace Go.Proofs.YtecfjdladcmhjaaDoor
open Go.RowKit

set_option maxRecDepth 100000 in
set_option maxHeartbeats 2000000 in
theorem paste_ok (bW bH cW cH : Nat) (bv cv : Value) (bs cs : List Bool) (x y : Int) (w : World) (hA : IsPage w bv bW bH (bs.map .bool)) (hC : IsPage w cv cW cH (cs.map .bool))
    (e1 : sizeErr bW bH = 0) (e2 : sizeErr cW cH = 0) (hx : -9223372036854775808 ≤ x ∧ x ≤ 9223372036854775807) (hy : -9223372036854775808 ≤ y ∧ y ≤ 9223372036854775807) :
    Calls Tryd.prog 39 #[bv, cv, .int .i64 x, .int .i64 y] w fun e w' => ∃ v, e = .returned (.tuple #[v, .int .i64 0]) ∧ NPage w.heap.size w' v bW bH ((grid bW bH (pasteF bs cs bW bH cW cH x y)).map .bool) ∧ Bl w w' := by
  obtain ⟨A, bc, rfl, hA⟩ := hA
  obtain ⟨C, cc, rfl, hC⟩ := hC
  have z1 := sizeErr_zero e1
  have z2 := sizeErr_zero e2
  have p1 : pageErr bW bH (bW * bH) = 0 := by unfold pageErr; rw [if_pos e1, if_pos (by simp)]
  have p2 : pageErr cW cH (cW * cH) = 0 := by unfold pageErr; rw [if_pos e2, if_pos (by simp)]
  have hbd : bW * bH ≤ 1048576 := by have := Int.natCast_mul bW bH; omega
  have ub1 : 1 ≤ bW ∧ bW ≤ 4000 := by omega
  have ub2 : 1 ≤ bH ∧ bH ≤ 4000 := by omega
  have uc1 : 1 ≤ cW ∧ cW ≤ 4000 := by omega
  have uc2 : 1 ≤ cH ∧ cH ≤ 4000 := by omega
  have E1 := Lib.hid e1; have E2 := Lib.hid e2; have P1 := Lib.hid p1; have P2 := Lib.hid p2
  clear e1 e2 z1 z2
  let w6 := ((((((w).alloc (.cells #[.int .i64 bW, .int .i64 bH, .slice A (bW * bH) bc] 24)).alloc (.cells #[.int .i64 cW, .int .i64 cH, .slice C (cW * cH) cc] 24)).alloc (.cells #[.int .i64 x] 3)).alloc (.cells #[.int .i64 y] 3)).alloc (.cells #[.int .i64 0, .int .i64 0, .slice none 0 0] 24)).alloc (.cells #[.int .i64 bW, .int .i64 bH, .slice A (bW * bH) bc, .int .i64 cW, .int .i64 cH, .slice C (cW * cH) cc] 24)
  have w6b : Bl w w6 := ((((((Bl.refl w).alloc _).alloc _).alloc _).alloc _).alloc _).alloc _
  have w61 : Blk w6 (w.heap.size) 24 #[.int .i64 bW, .int .i64 bH, .slice A (bW * bH) bc] := by
    have h0 := Blk.new (w) 24 #[.int .i64 bW, .int .i64 bH, .slice A (bW * bH) bc]
    exact (((((h0.alloc _).alloc _).alloc _).alloc _).alloc _)
  have w62 : Blk w6 (w.heap.size + 1) 24 #[.int .i64 cW, .int .i64 cH, .slice C (cW * cH) cc] := by
    have h0 := Blk.new ((w).alloc (.cells #[.int .i64 bW, .int .i64 bH, .slice A (bW * bH) bc] 24)) 24 #[.int .i64 cW, .int .i64 cH, .slice C (cW * cH) cc]
    simp only [World.size_alloc] at h0
    exact ((((h0.alloc _).alloc _).alloc _).alloc _)
  have w63 : Blk w6 (w.heap.size + 1 + 1) 3 #[.int .i64 x] := by
    have h0 := Blk.new (((w).alloc (.cells #[.int .i64 bW, .int .i64 bH, .slice A (bW * bH) bc] 24)).alloc (.cells #[.int .i64 cW, .int .i64 cH, .slice C (cW * cH) cc] 24)) 3 #[.int .i64 x]
    simp only [World.size_alloc] at h0
    exact (((h0.alloc _).alloc _).alloc _)
  have w64 : Blk w6 (w.heap.size + 1 + 1 + 1) 3 #[.int .i64 y] := by
    have h0 := Blk.new ((((w).alloc (.cells #[.int .i64 bW, .int .i64 bH, .slice A (bW * bH) bc] 24)).alloc (.cells #[.int .i64 cW, .int .i64 cH, .slice C (cW * cH) cc] 24)).alloc (.cells #[.int .i64 x] 3)) 3 #[.int .i64 y]
    simp only [World.size_alloc] at h0
    exact ((h0.alloc _).alloc _)
  have w65 : Blk w6 (w.heap.size + 1 + 1 + 1 + 1) 24 #[.int .i64 0, .int .i64 0, .slice none 0 0] := by
    have h0 := Blk.new (((((w).alloc (.cells #[.int .i64 bW, .int .i64 bH, .slice A (bW * bH) bc] 24)).alloc (.cells #[.int .i64 cW, .int .i64 cH, .slice C (cW * cH) cc] 24)).alloc (.cells #[.int .i64 x] 3)).alloc (.cells #[.int .i64 y] 3)) 24 #[.int .i64 0, .int .i64 0, .slice none 0 0]
    simp only [World.size_alloc] at h0
    exact (h0.alloc _)
  have w66 : Blk w6 (w.heap.size + 1 + 1 + 1 + 1 + 1) 24 #[.int .i64 bW, .int .i64 bH, .slice A (bW * bH) bc, .int .i64 cW, .int .i64 cH, .slice C (cW * cH) cc] := by
    have h0 := Blk.new ((((((w).alloc (.cells #[.int .i64 bW, .int .i64 bH, .slice A (bW * bH) bc] 24)).alloc (.cells #[.int .i64 cW, .int .i64 cH, .slice C (cW * cH) cc] 24)).alloc (.cells #[.int .i64 x] 3)).alloc (.cells #[.int .i64 y] 3)).alloc (.cells #[.int .i64 0, .int .i64 0, .slice none 0 0] 24)) 24 #[.int .i64 bW, .int .i64 bH, .slice A (bW * bH) bc, .int .i64 cW, .int .i64 cH, .slice C (cW * cH) cc]
    simp only [World.size_alloc] at h0
    exact h0
  go_enter Tryd.func39, Tryd.ntmps39
  go_wp2_with fail
  refine wp_loop_rounds 3 ?_
  rw [rounds_succ]
  go_wp2_with fail
  refine (checkBits_any _ _ _ _ _ _).mono ?_
  rintro e w7 ⟨rfl, hb7⟩
  have hb67 : Bl w6 w7 := ((Bl.refl w6).alloc _).trans hb7
  have a6 := (w66.bl hb67).all6
  have l7 : w.heap.size + 5 < w7.heap.size := by have := (w66.bl hb67).lt; simpa using this
  go_wp2_with fail
  rw [rounds_succ]
  go_wp2_with fail
  refine (checkBits_any _ _ _ _ _ _).mono ?_
  rintro e w8 ⟨rfl, hb8⟩
  have hb68 : Bl w6 w8 := (hb67.alloc _).trans hb8
  have q1 := (w61.bl hb68).all3
  have q2 := (w62.bl hb68).all3
  have q3 := (w63.bl hb68).all1
  have q4 := (w64.bl hb68).all1
  have q5 := w65.bl hb68
  have hr := q5.all3
  have l1 := (w61.bl hb68).lt
  have l2 := (w62.bl hb68).lt
  have l3 := (w63.bl hb68).lt
  have l4 := (w64.bl hb68).lt
  have l5 := q5.lt
  have hPA := (hA.bl (w6b.trans hb68))
  have hPC := (hC.bl (w6b.trans hb68))
  have hb8w := w6b.trans hb68
  generalize hB1 : w61.bl hb68 = B1
  clear hB1 a6 l7
  have B2 := w62.bl hb68
  have B3 := w63.bl hb68
  have B4 := w64.bl hb68
  go_wp2_with fail
  rw [rounds_succ]
  have tok : True := trivial
  have hP := fun (ap : Bool) (hap : ap = isApart bW bH cW cH x y) => (⟨enters Tryd.func114 (by kernel_rfl) rfl, fun wx u v hb hu hv => by
    subst hap
    have hb' : Bl w8 wx := ((Bl.refl w8).alloc _).trans hb
    have q2 : Blk (w8.alloc (.cells #[.bool (isApart bW bH cW cH x y)] 4)) w8.heap.size 4 #[.bool (isApart bW bH cW cH x y)] := Blk.new _ _ _
    exact paste1_any _ _ _ _ _ bW bH cW cH A C bc cc bs cs x y u v wx (B1.bl hb') (q2.bl hb) (B3.bl hb') (B4.bl hb') (B2.bl hb') (hPA.bl hb') (hPC.bl hb') ub1.2 ub2.2 uc1.2 uc2.2 hu hv⟩ :
    Paints Tryd.prog 114 #[.pointer (some ⟨w.heap.size, 0, none⟩), .pointer (some ⟨w8.heap.size, 0, none⟩), .pointer (some ⟨w.heap.size + 1 + 1, 0, none⟩), .pointer (some ⟨w.heap.size + 1 + 1 + 1, 0, none⟩), .pointer (some ⟨w.heap.size + 1, 0, none⟩)] Value.bool (w8.alloc (.cells #[.bool ap] 4)) bW bH (pasteF bs cs bW bH cW cH x y))
  have HP := Lib.hid hP; clear hP
  have HPA := Lib.hid hPA; have HPC := Lib.hid hPC
  clear hPA hPC B1 B2 B3 B4
  go_wp2_with fail
  all_goals
    refine (made_any bW bH _ _ _ _ (by omega) (by omega) hbd (HP.out _ (by first | (unfold isApart; rfl) | (simp [isApart]; omega)))).mono ?_
    rintro e w9 ⟨r, rfl, hpg, hb9⟩
    have kr := ((q5.alloc _).bl hb9).all3
    obtain ⟨R, rc, rfl, hR, hRn⟩ := hpg
    have hb8' := hb8w.le
    have hRn' : ∀ ad, R = some ad → w.heap.size + 5 ≤ ad.block := fun ad h => by have := hRn ad h; simp at this; omega
    have HR := Lib.hid hR; have HRn := Lib.hid hRn'
    clear hR hRn hRn'
    go_wp2_with fail
    refine bodyPost_ret (v := .tuple #[.agg #[.int .i64 bW, .int .i64 bH, .slice R (bW * bH) rc], .int .i64 0]) (by simp [results, Tryd.results39, go_sem, kr]) rfl ⟨_, rfl, ⟨R, rc, rfl, ?_, fun ad h => by have := HRn.out ad h; omega⟩, ?_⟩
    · exact ((HR.out.store HRn.out (by simp) _).store HRn.out (by simp) _).store HRn.out (by simp) _
    · exact ((((hb8w.alloc _).trans hb9).setCell (by simp; omega) _).setCell (by simp; omega) _).setCell (by simp; omega) _

end Go.Proofs.YtecfjdladcmhjaaDoor
