/- Profile, Score, skews. -/
import Derived.Test.YtkhajhcfplicpaaDoorS4
import Derived.Test.YtkhajhcfplicpaaDoorS13
import Derived.Test.YtkhajhcfplicpaaDoorS1
import Derived.Test.YtkhajhcfplicpaaDoorS0

namespace Go.Proofs.YtkhajhcfplicpaaDoor
open Go.RowKit

set_option maxRecDepth 100000 in
set_option maxHeartbeats 4000000 in
theorem moved_any (W H : Nat) (A : Option Addr) (ac : Nat) (bs : List Bool) (T : Nat → Nat → Int × Int) (kf : FuncId) (cap : Array Value) (w : World) (hA : Reads w 1 A (W * H) (bs.map .bool)) (hW : 1 ≤ W ∧ W ≤ 4000) (hH : H ≤ 4000) (hbd : W * H ≤ 1048576)
    (hent : ∀ args w, (callFunc kf args).run Tryd.prog w = .ok (.enter kf args) w)
    (hT : ∀ wx (x y : Nat), Bl w wx → x < W → y < H → Calls Tryd.prog kf (#[.int .i64 x, .int .i64 y] ++ cap) wx fun e w' => e = .returned (.tuple #[.int .i64 (T x y).1, .int .i64 (T x y).2]) ∧ Bl wx w')
    (hTb : ∀ x y, x < W → y < H → (-10000 ≤ (T x y).1 ∧ (T x y).1 ≤ 10000) ∧ (-10000 ≤ (T x y).2 ∧ (T x y).2 ≤ 10000)) :
    Calls Tryd.prog 137 #[.agg #[.int .i64 W, .int .i64 H, .slice A (W * H) ac], .func (.func kf) #[] cap] w fun e w' =>
      ∃ g, e = .returned (.agg #[.int .i64 W, .int .i64 H, .slice (some ⟨g, 0, none⟩) (W * H) (W * H)]) ∧ w.heap.size ≤ g ∧ Blk w' g 4 (tabB (W * H) (hitTo bs W T (W * H))) ∧ Bl w w' := by
  let w2 := ((w).alloc (.cells #[.int .i64 W, .int .i64 H, .slice A (W * H) ac] 24)).alloc (.cells #[.int .i64 0, .int .i64 0, .slice none 0 0] 24)
  have w2b : Bl w w2 := ((Bl.refl w).alloc _).alloc _
  have w21 : Blk w2 (w.heap.size) 24 #[.int .i64 W, .int .i64 H, .slice A (W * H) ac] := by
    have h0 := Blk.new (w) 24 #[.int .i64 W, .int .i64 H, .slice A (W * H) ac]
    exact (h0.alloc _)
  have w22 : Blk w2 (w.heap.size + 1) 24 #[.int .i64 0, .int .i64 0, .slice none 0 0] := by
    have h0 := Blk.new ((w).alloc (.cells #[.int .i64 W, .int .i64 H, .slice A (W * H) ac] 24)) 24 #[.int .i64 0, .int .i64 0, .slice none 0 0]
    simp only [World.size_alloc] at h0
    exact h0
  have k1 := w21.all3
  have lw2 : w2.heap.size = w.heap.size + 2 := by simp [w2]
  have hWH : (W : Int) * (H : Int) = ((W * H : Nat) : Int) := by simp
  have hmk := run_make_row' (P := Tryd.prog) 22 4 (.bool false) 1 Tryd.underlying22 info_bool rfl .i64 .i64 (W * H) (by omega) (by omega)
  rw [tabB_made, ← hWH] at hmk
  have HT := Lib.hid hT; have HTb := Lib.hid hTb; have HWH := Lib.hid hWH
  have HA := Lib.hid hA
  clear hT hTb hWH hA
  go_enter Tryd.func137, Tryd.ntmps137
  go_upto_region 1 with fail
  go_cut [5] from 10 (fun s5 wc => ∃ p g, s5 = .pointer (some ⟨p, 0, none⟩) ∧ p ≠ g ∧ w.heap.size + 2 ≤ p ∧ w.heap.size + 2 ≤ g ∧ Blk wc p 24 #[.int .i64 W, .int .i64 H, .slice (some ⟨g, 0, none⟩) (W * H) (W * H)] ∧ Blk wc g 4 (tabB (W * H) fun _ => false) ∧ Bl w2 wc)
  case first =>
    refine wp_region_fork [(true, 0), (true, 1), (true, 2), (true, 3), (true, 4), (true, 5), (true, 6)] 7 [(true, 8), (false, 9), (false, 10)] 9 [(false, 7), (true, 8), (false, 10)] (fun i => i == 10) (by kernel_rfl) (by kernel_rfl) (by kernel_rfl) (by kernel_rfl) ?_
    iterate 1
      apply Flow.calm2 _ _ rfl rfl
      · intro w' hb' K' hK'
        obtain ⟨hc', hf'⟩ := hb'.rule
        go_simp
        try go_ints
        exact hK'
      · intro K' hK'
        simp only [Act.put, List.setIfInBounds_toArray, List.set_cons_zero, List.set_cons_succ]
        exact hK'
    iterate 1
      apply Flow.calm2 _ _ rfl rfl
      · intro w' hb' K' hK'
        obtain ⟨hc', hf'⟩ := hb'.rule
        go_simp
        try go_ints
        exact hK'
      · intro K' hK'
        simp only [Act.put, List.setIfInBounds_toArray, List.set_cons_zero, List.set_cons_succ]
        exact hK'
    iterate 1
      apply Flow.calm2 _ _ rfl rfl
      · intro w' hb' K' hK'
        obtain ⟨hc', hf'⟩ := hb'.rule
        go_simp
        try go_ints
        exact hK'
      · intro K' hK'
        simp only [Act.put, List.setIfInBounds_toArray, List.set_cons_zero, List.set_cons_succ]
        exact hK'
    iterate 1
      apply Flow.calm2 _ _ rfl rfl
      · intro w' hb' K' hK'
        obtain ⟨hc', hf'⟩ := hb'.rule
        go_simp
        try go_ints
        exact hK'
      · intro K' hK'
        simp only [Act.put, List.setIfInBounds_toArray, List.set_cons_zero, List.set_cons_succ]
        exact hK'
    iterate 1
      apply Flow.calm2 _ _ rfl rfl
      · intro w' hb' K' hK'
        obtain ⟨hc', hf'⟩ := hb'.rule
        go_simp
        try go_ints
        exact hK'
      · intro K' hK'
        simp only [Act.put, List.setIfInBounds_toArray, List.set_cons_zero, List.set_cons_succ]
        exact hK'
    iterate 1
      apply Flow.calm2 _ _ rfl rfl
      · intro w' hb' K' hK'
        obtain ⟨hc', hf'⟩ := hb'.rule
        go_simp
        try go_ints
        exact hK'
      · intro K' hK'
        simp only [Act.put, List.setIfInBounds_toArray, List.set_cons_zero, List.set_cons_succ]
        exact hK'
    iterate 1
      apply Flow.calm2 _ _ rfl rfl
      · intro w' hb' K' hK'
        obtain ⟨hc', hf'⟩ := hb'.rule
        go_simp
        try go_ints
        exact hK'
      · intro K' hK'
        simp only [Act.put, List.setIfInBounds_toArray, List.set_cons_zero, List.set_cons_succ]
        exact hK'
    refine Flow.fork ?_
    refine ⟨?_, ?_⟩
    · apply Flow.move rfl
      go_wp2_with fail
      refine ⟨fun _ => ?_, ?_⟩
      · repeat' (first | exact Bl.refl _ | refine Bl.drewL ?_ | refine Bl.drew ?_ | refine Bl.alloc ?_ _)
      iterate 1
        apply Flow.calm2 _ _ rfl rfl
        · intro w' hb' K' hK'
          obtain ⟨hc', hf'⟩ := hb'.rule
          go_simp
          try go_ints
          exact hK'
        · intro K' hK'
          simp only [Act.put, List.setIfInBounds_toArray, List.set_cons_zero, List.set_cons_succ]
          exact hK'
      apply Flow.move rfl
      go_wp2_with fail
      refine ⟨fun _ => ?_, ?_⟩
      · repeat' (first | exact Bl.refl _ | refine Bl.drewL ?_ | refine Bl.drew ?_ | refine Bl.alloc ?_ _)
      refine Flow.tail _ rfl ?_
      go_wp2_with fail
      go_meet
      case rel =>
        refine ⟨w.heap.size + 3, w.heap.size + 2, rfl, by omega, by omega, by omega, ?_, ?_, ?_⟩
        · have h := Blk.new (w2.alloc (.cells (tabB (W * H) fun _ => false) 4)) 24 #[.int .i64 W, .int .i64 H, .slice (some ⟨w.heap.size + 2, 0, none⟩) (W * H) (W * H)]
          rw [World.size_alloc, lw2] at h
          exact h.drew
        · have h := Blk.new w2 4 (tabB (W * H) fun _ => false)
          rw [lw2] at h
          exact (h.alloc _).drew
        · exact (((Bl.refl w2).alloc _).alloc _).drew
    · apply Flow.move rfl
      go_wp2_with fail
      refine ⟨fun _ => ?_, ?_⟩
      · repeat' (first | exact Bl.refl _ | refine Bl.drewL ?_ | refine Bl.drew ?_ | refine Bl.alloc ?_ _)
      apply Flow.move rfl
      go_wp2_with fail
      refine ⟨fun _ => ?_, ?_⟩
      · repeat' (first | exact Bl.refl _ | refine Bl.drewL ?_ | refine Bl.drew ?_ | refine Bl.alloc ?_ _)
      iterate 1
        apply Flow.calm2 _ _ rfl rfl
        · intro w' hb' K' hK'
          obtain ⟨hc', hf'⟩ := hb'.rule
          go_simp
          try go_ints
          exact hK'
        · intro K' hK'
          simp only [Act.put, List.setIfInBounds_toArray, List.set_cons_zero, List.set_cons_succ]
          exact hK'
      refine Flow.tail _ rfl ?_
      go_wp2_with fail
      go_meet
      case rel =>
        refine ⟨w.heap.size + 2, w.heap.size + 3, rfl, by omega, by omega, by omega, ?_, ?_, ?_⟩
        · have h := Blk.new w2 24 #[.int .i64 W, .int .i64 H, .slice (some ⟨w.heap.size + 3, 0, none⟩) (W * H) (W * H)]
          rw [lw2] at h
          exact (h.alloc _).drew
        · have h := Blk.new (w2.alloc (.cells #[.int .i64 W, .int .i64 H, .slice (some ⟨w.heap.size + 3, 0, none⟩) (W * H) (W * H)] 24)) 4 (tabB (W * H) fun _ => false)
          rw [World.size_alloc, lw2] at h
          exact h.drew
        · exact (((Bl.refl w2).alloc _).alloc _).drew
  case rest =>
    obtain ⟨p, g, rfl, hpg, hp, hg, hbp, hbg, hbc⟩ := hcut
    clear k1 hmk
    have k1 := (w21.bl hbc).all3
    go_wp2_with fail
    go_loopw [22] (fun u wr => ∃ i : Nat, i ≤ W * H ∧ u = .int .i64 i ∧ Bl w2 wr ∧ Blk wr p 24 #[.int .i64 W, .int .i64 H, .slice (some ⟨g, 0, none⟩) (W * H) (W * H)] ∧ Blk wr g 4 (tabB (W * H) (hitTo bs W T i))) (fun u _ => W * H - (intOf u).toNat)
    case atStart => exact ⟨0, Nat.zero_le _, rfl, hbc, hbp, hbg⟩
    case round =>
      clear k1 hbc hbp hbg
      obtain ⟨i, hi, rfl, hbr, hbp, hbg⟩ := hrel
      have k1 := (w21.bl hbr).all3
      by_cases hlt : i < W * H
      · have hWp : ¬ (W = 0) := by omega
        have il : (i : Int) < (W : Int) * (H : Int) := by have := HWH.out; omega
        obtain ⟨ad, ua, eA, hu, hca⟩ := (HA.out.bl (w2b.trans hbr)).at_ hlt
        have hua : ua = .bool (bs.getD i false) := by
          simp only [List.getElem?_map, Option.map_eq_some_iff] at hu
          obtain ⟨b, hb1, hb2⟩ := hu
          rw [← hb2, List.getD, hb1]; rfl
        clear hu
        subst hua eA
        have mlt : i % W < W := Nat.mod_lt _ (by omega)
        have dlt : i / W < H := Nat.div_lt_of_lt_mul hlt
        cases hva : bs.getD i false
        · have hno : tabB (W * H) (hitTo bs W T (i + 1)) = tabB (W * H) (hitTo bs W T i) := tabB_congr fun k _ => hitTo_no hva k
          rw [← hno] at hbg
          rw [hva] at hca
          have Hva := Lib.hid hva
          clear hno hva
          go_wp2_with fail
          exact ⟨⟨i + 1, hlt, by go_num, hbr, hbp, hbg⟩, by simp [intOf]; omega⟩
        · rw [hva] at hca
          have hout := fun x y => hitTo_out (bs := bs) (W := W) (H := H) (m := i) (T := T) (x := x) (y := y)
          have hin := fun X Y => hitTo_in (bs := bs) (W := W) (H := H) (m := i) (X := X) (Y := Y) (T := T) hva
          have htb := HTb.out (i % W) (i / W) mlt dlt
          have htc := fun wx (h : Bl w2 wx) => HT.out wx (i % W) (i / W) (w2b.trans h) mlt dlt
          obtain ⟨xi, hxi⟩ : ∃ n, n = i % W := ⟨_, rfl⟩
          obtain ⟨yi, hyi⟩ : ∃ n, n = i / W := ⟨_, rfl⟩
          have e1 : (i : Int) % (W : Int) = (xi : Int) := by rw [hxi]; simp
          have e2 : (i : Int) / (W : Int) = (yi : Int) := by rw [hyi]; simp
          have e3 := hxi.symm
          have e4 := hyi.symm
          rw [← hxi, ← hyi] at htb htc
          simp only [← hxi, ← hyi] at hout hin
          rw [← hxi] at mlt
          rw [← hyi] at dlt
          obtain ⟨tx, ty, ht⟩ : ∃ tx ty, T xi yi = (tx, ty) := ⟨_, _, rfl⟩
          rw [ht] at htb htc
          simp only [ht] at hout hin
          simp only [] at htb htc
          have Hva := Lib.hid hva; have Hout := Lib.hid (hout tx ty rfl); have Hin := Lib.hid hin; have Htc := Lib.hid htc
          clear hva hxi hyi hout hin htc ht
          go_upto_region 6 with fail
          refine wp_region_flow [(true, 0), (true, 1), (true, 2), (true, 3), (true, 4), (true, 5), (true, 6), (true, 7), (true, 8), (false, 9), (true, 10), (true, 11), (true, 12), (true, 13), (true, 14)] (fun _ => false) (by kernel_rfl) (by kernel_rfl) (by kernel_rfl) (by kernel_rfl) ?_
          iterate 2
            apply Flow.mv _ rfl
            · intro K' hK'
              simp only [Act.put, Act.eval, List.setIfInBounds_toArray, List.set_cons_zero, List.set_cons_succ, arr_getD, List.getD_cons_zero, List.getD_cons_succ]
              exact hK'
          iterate 1
            apply Flow.calm2 _ _ rfl rfl
            · intro w' hb' K' hK'
              obtain ⟨hc', hf'⟩ := hb'.rule
              go_simp
              try go_ints
              exact hK'
            · intro K' hK'
              simp only [Act.put, List.setIfInBounds_toArray, List.set_cons_zero, List.set_cons_succ]
              exact hK'
          iterate 1
            apply Flow.calm2 _ _ rfl rfl
            · intro w' hb' K' hK'
              obtain ⟨hc', hf'⟩ := hb'.rule
              go_simp
              try go_ints
              exact hK'
            · intro K' hK'
              simp only [Act.put, List.setIfInBounds_toArray, List.set_cons_zero, List.set_cons_succ]
              exact hK'
          iterate 1
            apply Flow.calm2 _ _ rfl rfl
            · intro w' hb' K' hK'
              obtain ⟨hc', hf'⟩ := hb'.rule
              go_simp
              try go_ints
              exact hK'
            · intro K' hK'
              simp only [Act.put, List.setIfInBounds_toArray, List.set_cons_zero, List.set_cons_succ]
              exact hK'
          iterate 1
            apply Flow.mv _ rfl
            · intro K' hK'
              simp only [Act.put, Act.eval, List.setIfInBounds_toArray, List.set_cons_zero, List.set_cons_succ, arr_getD, List.getD_cons_zero, List.getD_cons_succ]
              exact hK'
          iterate 1
            apply Flow.calm2 _ _ rfl rfl
            · intro w' hb' K' hK'
              obtain ⟨hc', hf'⟩ := hb'.rule
              go_simp
              try go_ints
              exact hK'
            · intro K' hK'
              simp only [Act.put, List.setIfInBounds_toArray, List.set_cons_zero, List.set_cons_succ]
              exact hK'
          iterate 1
            apply Flow.calm2 _ _ rfl rfl
            · intro w' hb' K' hK'
              obtain ⟨hc', hf'⟩ := hb'.rule
              go_simp
              try go_ints
              exact hK'
            · intro K' hK'
              simp only [Act.put, List.setIfInBounds_toArray, List.set_cons_zero, List.set_cons_succ]
              exact hK'
          iterate 1
            apply Flow.calm2 _ _ rfl rfl
            · intro w' hb' K' hK'
              obtain ⟨hc', hf'⟩ := hb'.rule
              go_simp
              try go_ints
              exact hK'
            · intro K' hK'
              simp only [Act.put, List.setIfInBounds_toArray, List.set_cons_zero, List.set_cons_succ]
              exact hK'
          apply Flow.move rfl
          go_wp2_with fail
          refine (Htc.out _ (hbr.trans (Bl.refl _).drew)).mono ?_
          rintro e w5 ⟨rfl, HB1⟩
          go_wp2_with fail
          refine ⟨fun _ => (by first | exact HB1 | exact Bl.refl _), ?_⟩
          iterate 1
            apply Flow.mv _ rfl
            · intro K' hK'
              simp only [Act.put, Act.eval, List.setIfInBounds_toArray, List.set_cons_zero, List.set_cons_succ, arr_getD, List.getD_cons_zero, List.getD_cons_succ]
              exact hK'
          iterate 2
            apply Flow.calm2 _ _ rfl rfl
            · intro w' hb' K' hK'
              obtain ⟨hc', hf'⟩ := hb'.rule
              go_simp
              try go_ints
              exact hK'
            · intro K' hK'
              simp only [Act.put, List.setIfInBounds_toArray, List.set_cons_zero, List.set_cons_succ]
              exact hK'
          iterate 2
            apply Flow.asg _ rfl
            · intro K' hK'
              simp only [Act.put, Act.eval, List.setIfInBounds_toArray, List.set_cons_zero, List.set_cons_succ, arr_getD, List.getD_cons_zero, List.getD_cons_succ]
              exact hK'
          refine Flow.done ?_
          have hb5 := Bl.ofDrew HB1
          have hbr5 := hbr.trans hb5
          have k5 := (w21.bl hbr5).all3
          have hbp5 := hbp.bl hb5
          have hbg5 := hbg.bl hb5
          clear k1 hbp hbg hb5 HB1 hca
          rcases (show tx < 0 ∨ (0 ≤ tx ∧ (W : Int) ≤ tx) ∨ (0 ≤ tx ∧ tx < W ∧ ty < 0) ∨ (0 ≤ tx ∧ tx < W ∧ 0 ≤ ty ∧ (H : Int) ≤ ty) ∨ (0 ≤ tx ∧ tx < W ∧ 0 ≤ ty ∧ ty < H) by omega) with hw | hw | hw | hw | ⟨w1, w3, w4, w6⟩
          iterate 4
            · have hno : tabB (W * H) (hitTo bs W T (i + 1)) = tabB (W * H) (hitTo bs W T i) := tabB_congr fun k hk => Hout.out (by omega) k hk
              rw [← hno] at hbg5
              clear hno
              go_wp2_with fail
              exact ⟨⟨i + 1, hlt, by go_num, hbr5, hbp5, hbg5⟩, by simp [intOf]; omega⟩
          · obtain ⟨X, rfl⟩ := Int.eq_ofNat_of_zero_le w1
            obtain ⟨Y, rfl⟩ := Int.eq_ofNat_of_zero_le w4
            have lX : X < W := by omega
            have lY : Y < H := by omega
            have hk := place_lt lX lY
            have hset := hbg5.tabSetB (f' := hitTo bs W T (i + 1)) (Y * W + X) true (fun k hk => Hin.out X Y rfl lX k hk)
            have kp5 := hbp5.all3
            have kc := hbg5.tabAtB hk
            have kf := hbg5.frozen (Y * W + X)
            obtain ⟨k, hkk⟩ : ∃ k, k = Y * W + X := ⟨_, rfl⟩
            rw [← hkk] at hk hset kc kf
            have f1 : (Y : Int) * (W : Int) + (X : Int) = (k : Int) := by rw [hkk]; simp
            have f2 : (k : Int) < (W : Int) * (H : Int) := by have := HWH.out; omega
            have f3 : (0 : Int) ≤ (Y : Int) * (W : Int) ∧ (Y : Int) * (W : Int) ≤ 16000000 := by
              have := Int.natCast_mul Y W
              have := Nat.mul_le_mul (show Y ≤ 4000 by omega) hW.2
              omega
            have Hset := Lib.hid hset; have Hkk := Lib.hid hkk
            clear hset hkk
            go_wp2_with fail
            exact ⟨⟨i + 1, hlt, by go_num, hbr5.setCell (by simp; omega) _, hbp5.far (by simp; omega) _, Hset.out⟩, by simp [intOf]; omega⟩
      · obtain rfl : i = W * H := by omega
        have kp := hbp.all3
        have k2 := (w22.bl hbr).all3
        go_wp2_with fail
        refine bodyPost_ret (v := .agg #[.int .i64 W, .int .i64 H, .slice (some ⟨g, 0, none⟩) (W * H) (W * H)]) (by simp [results, Tryd.results137, go_sem, k2]) rfl ⟨g, rfl, by omega, ?_, ?_⟩
        · exact (((hbg.far (by simp; omega) _).far (by simp; omega) _).far (by simp; omega) _)
        · exact ((((w2b.trans hbr).setCell (by simp) _).setCell (by simp) _).setCell (by simp) _)

end Go.Proofs.YtkhajhcfplicpaaDoor


/-! shift, leans, slants, check, squares. -/
namespace Go.Proofs.YtkhajhcfplicpaaDoor
open Go.RowKit

theorem shiftI_parts {n : Int} (h : -2000000 ≤ n ∧ n ≤ 2000000) : (n < 0 ∧ shiftI n = -roundI (-n) 1024 ∧ 0 ≤ roundI (-n) 1024 ∧ roundI (-n) 1024 ≤ 2000) ∨ (¬ n < 0 ∧ shiftI n = roundI n 1024 ∧ 0 ≤ roundI n 1024 ∧ roundI n 1024 ≤ 2000) := by
  unfold shiftI
  by_cases hn : n < 0
  · rw [if_pos hn]; refine Or.inl ⟨hn, rfl, ?_⟩; unfold roundI; omega
  · rw [if_neg hn]; refine Or.inr ⟨hn, rfl, ?_⟩; unfold roundI; omega

set_option maxHeartbeats 400000 in
theorem shift_any (n : Int) (w : World) (h : -2000000 ≤ n ∧ n ≤ 2000000) : Calls Tryd.prog 226 #[.int .i64 n] w fun e w' => e = .returned (.int .i64 (shiftI n)) ∧ w = w' := by
  rcases shiftI_parts h with ⟨hn, e, h1, h2⟩ | ⟨hn, e, h1, h2⟩
  all_goals
    rw [e]
    clear e
    go_enter Tryd.func226, Tryd.ntmps226
    go_wp2_with (go_at_call 171; refine (rounded_any _ _ _ (by omega) (by omega) (by omega) (by omega)).mono ?_; rintro e w' ⟨rfl, rfl⟩)
    go_ret
    exact ⟨rfl, rfl⟩
set_option maxRecDepth 100000 in
set_option maxHeartbeats 1000000 in
theorem leans_any (W : Nat) (n : Int) (w : World) (hW : W ≤ 4000) (h1 : 1 ≤ W) (hn : -256 ≤ n ∧ n ≤ 256) : Calls Tryd.prog 136 #[.int .i64 W, .int .i64 n] w fun e w' =>
    ∃ g, e = .returned (.slice (some ⟨g, 0, none⟩) W W) ∧ w.heap.size ≤ g ∧ Blk w' g 3 (tabI W (leanI W n)) ∧ Bl w w' := by
  have hmk := run_make_row' (P := Tryd.prog) 83 3 (.int .i64 0) 8 Tryd.underlying83 info_int rfl .i64 .i64 W (by omega) (by omega)
  rw [tabI_made] at hmk
  go_enter Tryd.func136, Tryd.ntmps136
  go_wp2_with fail
  go_loopw [11] (fun u wr => ∃ k : Nat, k ≤ W ∧ u = .int .i64 k ∧ Bl w wr ∧ Blk wr w.heap.size 3 (tabI W fun j => if j < k then leanI W n j else 0)) (fun u _ => W - (intOf u).toNat)
  case atStart => exact ⟨0, Nat.zero_le _, rfl, (Bl.refl _).alloc _, by simpa using Blk.new w _ _⟩
  case round =>
    obtain ⟨k, hk, rfl, hbr, hblk⟩ := hrel
    by_cases hlt : k < W
    · have hbd := leanArg_bd hW hn hlt
      have hbd2 := leanI_bd hW hn hlt
      have elean : shiftI (n * ((k : Int) - ((W : Int) - 1) / 2)) = leanI W n k := rfl
      obtain ⟨m, hm⟩ : ∃ m, m = n * ((k : Int) - ((W : Int) - 1) / 2) := ⟨_, rfl⟩
      rw [← hm] at hbd elean
      have hm' := hm.symm
      have kc := hblk.tabAt hlt
      have kf := hblk.frozen k
      have hset := hblk.tabSet (f' := fun j => if j < k + 1 then leanI W n j else 0) k (leanI W n k) (fun j _ => by
        by_cases e : j = k
        · subst e; simp
        · rw [if_neg e]
          have : (j < k + 1) = (j < k) := by apply propext; omega
          simp only [this])
      have Hset := Lib.hid hset
      have Hm := Lib.hid hm
      clear hset hm
      simp only [Nat.lt_irrefl, if_false] at kc
      go_wp2_with (go_at_call 226; refine (shift_any _ _ (by omega)).mono ?_; rintro e w' ⟨rfl, rfl⟩)
      exact ⟨⟨k + 1, hlt, by go_num, hbr.setCell (by simp) _, Hset.out⟩, by simp [intOf]; omega⟩
    · obtain rfl : k = W := by omega
      have e : tabI k (fun j => if j < k then leanI k n j else 0) = tabI k (leanI k n) := tabI_congr fun j hj => by rw [if_pos hj]
      rw [e] at hblk
      go_wp2_with fail
      go_ret
      exact ⟨_, rfl, Nat.le_refl _, hblk, hbr⟩

/-- How far to the right a row goes. -/
def slantI (H : Nat) (n : Int) (y : Nat) : Int := shiftI (n * (((H : Int) - 1) / 2 - (y : Int)))
theorem slantArg_bd {H : Nat} {n : Int} {y : Nat} (hH : H ≤ 4000) (hn : -256 ≤ n ∧ n ≤ 256) (hy : y < H) : -2000000 ≤ n * (((H : Int) - 1) / 2 - (y : Int)) ∧ n * (((H : Int) - 1) / 2 - (y : Int)) ≤ 2000000 := by
  obtain ⟨d, hd⟩ : ∃ d, d = ((H : Int) - 1) / 2 - (y : Int) := ⟨_, rfl⟩
  rw [← hd]
  have h1 : -4000 ≤ d ∧ d ≤ 4000 := by omega
  have h2 : (n * d).natAbs ≤ 256 * 4000 := by
    rw [Int.natAbs_mul]
    exact Nat.mul_le_mul (by omega) (by omega)
  omega
theorem slantI_bd {H : Nat} {n : Int} {y : Nat} (hH : H ≤ 4000) (hn : -256 ≤ n ∧ n ≤ 256) (hy : y < H) : -2000 ≤ slantI H n y ∧ slantI H n y ≤ 2000 :=
  shiftI_bd (slantArg_bd hH hn hy)
/-! ### check -/
def leanErr (W H : Int) (k : Nat) (n : Int) : Int := firstNZ [pageErr W H k, whenI (!inB n (-256) 256) 3]
set_option maxRecDepth 100000 in
set_option maxHeartbeats 1000000 in
theorem check_any (W H : Int) (A : Option Addr) (k c : Nat) (n : Int) (w : World) : Calls Tryd.prog 135 #[.agg #[.int .i64 W, .int .i64 H, .slice A k c], .int .i64 n] w fun e w' => e = .returned (.int .i64 (leanErr W H k n)) ∧ Bl w w' := by
  by_cases hp : pageErr W H k = 0
  · rcases (show n < -256 ∨ (¬ n < -256 ∧ 256 < n) ∨ (-256 ≤ n ∧ n ≤ 256) by omega) with h | ⟨h, h'⟩ | h
    · have e : leanErr W H k n = 3 := by unfold leanErr; rw [hp, inB_false.2 (by omega)]; rfl
      have E := Lib.hid e; clear e
      go_enter Tryd.func135, Tryd.ntmps135
      go_wp2_with fail
      refine (checkBits_any _ _ _ _ _ _).mono ?_
      rintro e w1 ⟨rfl, hb1⟩
      go_wp2_with fail
      go_ret
      exact ⟨ret_int E.out.symm, ((Bl.refl _).alloc _).trans hb1⟩
    · have e : leanErr W H k n = 3 := by unfold leanErr; rw [hp, inB_false.2 (by omega)]; rfl
      have E := Lib.hid e; clear e
      go_enter Tryd.func135, Tryd.ntmps135
      go_wp2_with fail
      refine (checkBits_any _ _ _ _ _ _).mono ?_
      rintro e w1 ⟨rfl, hb1⟩
      go_wp2_with fail
      go_ret
      exact ⟨ret_int E.out.symm, ((Bl.refl _).alloc _).trans hb1⟩
    · have e : leanErr W H k n = 0 := by unfold leanErr; rw [hp, inB_true.2 (by omega)]; rfl
      have E := Lib.hid e; clear e
      go_enter Tryd.func135, Tryd.ntmps135
      go_wp2_with fail
      refine (checkBits_any _ _ _ _ _ _).mono ?_
      rintro e w1 ⟨rfl, hb1⟩
      go_wp2_with fail
      go_ret
      exact ⟨ret_int E.out.symm, ((Bl.refl _).alloc _).trans hb1⟩
  · have e : leanErr W H k n = pageErr W H k := by unfold leanErr; simp [firstNZ, hp]
    have hq : (pageErr W H k != 0) = true := by simp [hp]
    have E := Lib.hid e; clear e hp
    go_enter Tryd.func135, Tryd.ntmps135
    go_wp2_with fail
    refine (checkBits_any _ _ _ _ _ _).mono ?_
    rintro e w1 ⟨rfl, hb1⟩
    go_wp2_with fail
    go_ret
    exact ⟨ret_int E.out.symm, ((Bl.refl _).alloc _).trans hb1⟩
theorem leanErr_zero {W H : Int} {k : Nat} {n : Int} (h : leanErr W H k n = 0) : pageErr W H k = 0 ∧ (-256 ≤ n ∧ n ≤ 256) := by
  unfold leanErr firstNZ at h
  split at h
  · rename_i h0
    refine ⟨h0, ?_⟩
    cases hi : inB n (-256) 256
    · rw [hi] at h; simp [firstNZ, whenI] at h
    · exact inB_true.1 hi
  · contradiction

/-! ### squares -/
def sqN (f : Nat → Int) : Nat → Int
  | 0 => 0
  | k + 1 => sqN f k + f k * f k
theorem sqN_bd {f : Nat → Int} {b : Int} (h : ∀ k, 0 ≤ f k ∧ f k ≤ 1048576) : ∀ k, 0 ≤ sqN f k ∧ sqN f k ≤ 1099511627776 * k
  | 0 => by simp [sqN]
  | k + 1 => by
    have h1 := sqN_bd (b := b) h k
    have h2 := h k
    have h3 : 0 ≤ f k * f k := Int.mul_nonneg h2.1 h2.1
    have h4 := Int.mul_le_mul h2.2 h2.2 h2.1 (by omega)
    simp only [sqN]
    omega
theorem sqN_congr {f g : Nat → Int} : ∀ {n : Nat}, (∀ k, k < n → f k = g k) → sqN f n = sqN g n
  | 0, _ => rfl
  | n + 1, h => by
    unfold sqN
    rw [sqN_congr (n := n) (fun i hi => h i (by omega)), h n (by omega)]
set_option maxRecDepth 100000 in
set_option maxHeartbeats 1000000 in
theorem squares_any (A : Option Addr) (N c : Nat) (f : Nat → Int) (w : World) (hr : Reads w 1 A N ((tabL N f).map (.int .i64))) (hN : N ≤ 16000) (hf : ∀ k, 0 ≤ f k ∧ f k ≤ 1048576) :
    Calls Tryd.prog 229 #[.slice A N c] w fun e w' => e = .returned (.int .i64 (sqN f N)) ∧ w = w' := by
  have Hf := Lib.hid hf
  clear hf
  go_enter Tryd.func229, Tryd.ntmps229
  go_wp2_with fail
  go_loop [3, 8] (fun s u => ∃ k : Nat, k ≤ N ∧ u = .int .i64 k ∧ s = .int .i64 (sqN f k)) (fun _ u => N - (intOf u).toNat)
  case atStart => exact ⟨0, Nat.zero_le _, rfl, rfl⟩
  case round =>
    obtain ⟨k, hk, rfl, rfl⟩ := hrel
    by_cases hlt : k < N
    · obtain ⟨ad, rfl, hc⟩ := hr.intAt hlt
      have b1 := sqN_bd (b := 0) Hf.out k
      have b2 := Hf.out k
      have b3 : 0 ≤ f k * f k := Int.mul_nonneg b2.1 b2.1
      have b4 := Int.mul_le_mul b2.2 b2.2 b2.1 (by omega)
      go_wp2_with fail
      exact ⟨⟨k + 1, hlt, by go_num, rfl⟩, by simp [intOf]; omega⟩
    · obtain rfl : k = N := by omega
      go_wp2_with fail
      go_ret
      exact ⟨rfl, rfl⟩

end Go.Proofs.YtkhajhcfplicpaaDoor


/-! spots, profile, Profile, Score, skews. -/
namespace Go.Proofs.YtkhajhcfplicpaaDoor
open Go.RowKit

theorem info_point : (Tryd.prog.info? 279).map (fun i => (i.zero, i.size, i.bytes)) = some (some (.agg #[.int .i64 0, .int .i64 0]), 2, 16) := by kernel_rfl

def ptCells (W : Nat) : List Nat → List Value
  | [] => []
  | i :: l => .int .i64 ((i % W : Nat) : Int) :: .int .i64 ((i / W : Nat) : Int) :: ptCells W l
theorem ptCells_append (W : Nat) (l k : List Nat) : ptCells W (l ++ k) = ptCells W l ++ ptCells W k := by
  induction l with
  | nil => rfl
  | cons i l ih => simp [ptCells, ih]
theorem ptCells_at (W : Nat) : ∀ (l : List Nat) (j i : Nat), l[j]? = some i → (ptCells W l)[j * 2]? = some (.int .i64 ((i % W : Nat) : Int)) ∧ (ptCells W l)[j * 2 + 1]? = some (.int .i64 ((i / W : Nat) : Int))
  | [], j, i, h => by simp at h
  | a :: l, 0, i, h => by simp at h; subst h; simp [ptCells]
  | a :: l, j + 1, i, h => by
    have := ptCells_at W l j i (by simpa using h)
    rw [Nat.add_mul, Nat.one_mul]
    simpa [ptCells] using this

/-- A slice of places. -/
def PtReads (w : World) (P : Option Addr) (W : Nat) (l : List Nat) : Prop := 0 < l.length → ∃ g, P = some ⟨g, 0, none⟩ ∧ ∀ j i, l[j]? = some i → w.cell? ⟨g, j * 2, none⟩ = some (.int .i64 ((i % W : Nat) : Int)) ∧ w.cell? ⟨g, j * 2 + 1, none⟩ = some (.int .i64 ((i / W : Nat) : Int))
theorem PtReads.bl {w w' : World} {P : Option Addr} {W : Nat} {l : List Nat} (h : PtReads w P W l) (hb : Bl w w') : PtReads w' P W l := fun h0 =>
  let ⟨g, e, hc⟩ := h h0
  ⟨g, e, fun j i hi => ⟨hb.at (hc j i hi).1, hb.at (hc j i hi).2⟩⟩
theorem own_pts {w : World} {base : Nat} {e : TypeId} {v : Value} {W : Nat} {l : List Nat} (h : w.ownsRow base e 2 v l.length (ptCells W l)) : ∃ P c, v = .slice P l.length c ∧ PtReads w P W l := by
  rcases h.2 with ⟨rfl, hn⟩ | ⟨g, cap, cur, rfl, hb, hg, hn, hc, hs, ht⟩
  · have hl : l.length = 0 := by first | exact hn | omega
    exact ⟨none, 0, by rw [hl], fun h0 => absurd h0 (by omega)⟩
  · refine ⟨_, _, rfl, fun _ => ⟨g, rfl, fun j i hi => ?_⟩⟩
    obtain ⟨h1, h2⟩ := ptCells_at W l j i hi
    have hcell := h.cells (g := g) rfl
    have e : ∀ j, (⟨g, 0, none⟩ : Addr).add j = ⟨g, j, none⟩ := fun j => by unfold Addr.add; split <;> simp_all
    exact ⟨by have := hcell _ _ h1; rwa [e] at this, by have := hcell _ _ h2; rwa [e] at this⟩

set_option maxRecDepth 100000 in
set_option maxHeartbeats 2000000 in
theorem spots_any (W H : Nat) (A : Option Addr) (ac : Nat) (bs : List Bool) (w : World) (hA : Reads w 1 A (W * H) (bs.map .bool)) (h1 : 1 ≤ W) (hbd : W * H ≤ 1048576) (hW : W ≤ 4000) (hH : H ≤ 4000) :
    Calls Tryd.prog 270 #[.agg #[.int .i64 W, .int .i64 H, .slice A (W * H) ac]] w fun e w' => ∃ P c, e = .returned (.slice P (spotL bs (W * H)).length c) ∧ PtReads w' P W (spotL bs (W * H)) ∧ Bl w w' := by
  let w2 := (w).alloc (.cells #[.int .i64 W, .int .i64 H, .slice A (W * H) ac] 24)
  have w2b : Bl w w2 := (Bl.refl w).alloc _
  have w21 : Blk w2 (w.heap.size) 24 #[.int .i64 W, .int .i64 H, .slice A (W * H) ac] := by
    have h0 := Blk.new (w) 24 #[.int .i64 W, .int .i64 H, .slice A (W * H) ac]
    exact h0
  have k1 := w21.all3
  have lw2 : w2.heap.size = w.heap.size + 1 := by simp [w2]
  have hA2 := hA.bl w2b
  clear hA
  have ho0 : w2.ownsRow (w.heap.size + 1) 279 2 (.slice none 0 0) (spotL bs 0).length (ptCells W (spotL bs 0)) := World.ownsRow_nil _ _ _ _
  have Ho0 := Lib.hid ho0
  clear ho0
  go_enter Tryd.func270, Tryd.ntmps270
  go_wp2_with fail
  go_loopw [3, 9] (fun v u wr => ∃ i : Nat, i ≤ W * H ∧ u = .int .i64 i ∧ Bl w2 wr ∧ wr.ownsRow (w.heap.size + 1) 279 2 v (spotL bs i).length (ptCells W (spotL bs i))) (fun _ u _ => W * H - (intOf u).toNat)
  case atStart => exact ⟨0, Nat.zero_le _, rfl, Bl.refl _, Ho0.out⟩
  case round =>
    obtain ⟨i, hi, rfl, hbr, hown⟩ := hrel
    clear k1
    have k1 := (w21.bl hbr).all3
    by_cases hlt : i < W * H
    · have hWp : ¬ (W = 0) := by omega
      have il : (i : Int) < (W : Int) * (H : Int) := by have := Int.natCast_mul W H; omega
      obtain ⟨ad, ua, eA, hu, hca⟩ := (hA2.bl hbr).at_ hlt
      have hua : ua = .bool (bs.getD i false) := by
        simp only [List.getElem?_map, Option.map_eq_some_iff] at hu
        obtain ⟨b, hb1, hb2⟩ := hu
        rw [← hb2, List.getD, hb1]; rfl
      clear hu
      subst hua eA
      have hsp : spotL bs (i + 1) = spotL bs i ++ (if bs.getD i false then [i] else []) := rfl
      have hln := spotL_len bs i
      obtain ⟨va, hva⟩ : ∃ v, v = bs.getD i false := ⟨_, rfl⟩
      rw [← hva] at hsp hca
      have mlt : i % W < W := Nat.mod_lt _ (by omega)
      have dlt : i / W < H := Nat.div_lt_of_lt_mul hlt
      obtain ⟨xi, hxi⟩ : ∃ n, n = i % W := ⟨_, rfl⟩
      obtain ⟨yi, hyi⟩ : ∃ n, n = i / W := ⟨_, rfl⟩
      have e1 : (i : Int) % (W : Int) = (xi : Int) := by rw [hxi]; simp
      have e2 : (i : Int) / (W : Int) = (yi : Int) := by rw [hyi]; simp
      have e3 := hxi.symm
      have e4 := hyi.symm
      have hpt : ptCells W [i] = [.int .i64 (xi : Int), .int .i64 (yi : Int)] := by rw [hxi, hyi]; rfl
      rw [← hxi] at mlt
      rw [← hyi] at dlt
      have Hpt := Lib.hid hpt
      clear hxi hyi hpt
      have Hva := Lib.hid hva
      clear hva
      cases va
      · have Hsp := Lib.hid hsp
        clear hsp
        go_wp2_with fail
        exact ⟨⟨i + 1, hlt, by go_num, hbr, by rw [Hsp.out]; simpa using hown⟩, by simp [intOf]; omega⟩
      · have Hsp := Lib.hid hsp
        clear hsp
        go_wp2_with fail
        refine wp_region_flow [(true, 0), (true, 1), (true, 2), (true, 3), (true, 4), (true, 5), (true, 6), (true, 7), (true, 8), (true, 9), (false, 10), (false, 11), (true, 12)] (fun i => i == 11) (by kernel_rfl) (by kernel_rfl) (by kernel_rfl) (by kernel_rfl) ?_
        iterate 2
          apply Flow.mv _ rfl
          · intro K' hK'
            simp only [Act.put, Act.eval, List.setIfInBounds_toArray, List.set_cons_zero, List.set_cons_succ, arr_getD, List.getD_cons_zero, List.getD_cons_succ]
            exact hK'
        iterate 1
          apply Flow.calm2 _ _ rfl rfl
          · intro w' hb' K' hK'
            obtain ⟨hc', hf'⟩ := hb'.rule
            go_simp
            try go_ints
            exact hK'
          · intro K' hK'
            simp only [Act.put, List.setIfInBounds_toArray, List.set_cons_zero, List.set_cons_succ]
            exact hK'
        iterate 1
          apply Flow.calm2 _ _ rfl rfl
          · intro w' hb' K' hK'
            obtain ⟨hc', hf'⟩ := hb'.rule
            go_simp
            try go_ints
            exact hK'
          · intro K' hK'
            simp only [Act.put, List.setIfInBounds_toArray, List.set_cons_zero, List.set_cons_succ]
            exact hK'
        iterate 1
          apply Flow.calm2 _ _ rfl rfl
          · intro w' hb' K' hK'
            obtain ⟨hc', hf'⟩ := hb'.rule
            go_simp
            try go_ints
            exact hK'
          · intro K' hK'
            simp only [Act.put, List.setIfInBounds_toArray, List.set_cons_zero, List.set_cons_succ]
            exact hK'
        iterate 1
          apply Flow.mv _ rfl
          · intro K' hK'
            simp only [Act.put, Act.eval, List.setIfInBounds_toArray, List.set_cons_zero, List.set_cons_succ, arr_getD, List.getD_cons_zero, List.getD_cons_succ]
            exact hK'
        iterate 1
          apply Flow.calm2 _ _ rfl rfl
          · intro w' hb' K' hK'
            obtain ⟨hc', hf'⟩ := hb'.rule
            go_simp
            try go_ints
            exact hK'
          · intro K' hK'
            simp only [Act.put, List.setIfInBounds_toArray, List.set_cons_zero, List.set_cons_succ]
            exact hK'
        iterate 1
          apply Flow.calm2 _ _ rfl rfl
          · intro w' hb' K' hK'
            obtain ⟨hc', hf'⟩ := hb'.rule
            go_simp
            try go_ints
            exact hK'
          · intro K' hK'
            simp only [Act.put, List.setIfInBounds_toArray, List.set_cons_zero, List.set_cons_succ]
            exact hK'
        iterate 1
          apply Flow.calm2 _ _ rfl rfl
          · intro w' hb' K' hK'
            obtain ⟨hc', hf'⟩ := hb'.rule
            go_simp
            try go_ints
            exact hK'
          · intro K' hK'
            simp only [Act.put, List.setIfInBounds_toArray, List.set_cons_zero, List.set_cons_succ]
            exact hK'
        iterate 1
          apply Flow.calm2 _ _ rfl rfl
          · intro w' hb' K' hK'
            obtain ⟨hc', hf'⟩ := hb'.rule
            go_simp
            try go_ints
            exact hK'
          · intro K' hK'
            simp only [Act.put, List.setIfInBounds_toArray, List.set_cons_zero, List.set_cons_succ]
            exact hK'
        apply Flow.move rfl
        go_wp2_with fail
        refine ⟨fun _ => ?_, ?_⟩
        · repeat' (first | exact Bl.refl _ | refine Bl.drewL ?_ | refine Bl.drew ?_ | refine Bl.alloc ?_ _)
        apply Flow.move rfl
        refine wpList_append_bl rfl (.tmp 15) (.tmp 25) 244 rfl 279 (.agg #[.int .i64 0, .int .i64 0]) 2 16 Tryd.underlying244 info_point rfl (by omega) (w.heap.size + 1) u3 (spotL bs i).length (ptCells W (spotL bs i)) rfl (hbr.trans ((Bl.refl _).alloc _).drew) (by omega) (by have := hbr.le; simp; omega) (own_bl hown ((Bl.refl _).alloc _).drew) (some ⟨wr.heap.size, 0, none⟩) 1 1 [.int .i64 (xi : Int), .int .i64 (yi : Int)] rfl ((Blk.new wr _ _).drew.reads 1 2 rfl) (by simp [Value.oneCell']) (by unfold maxLen; omega) (by omega) ?_
        intro v' w4 hown' hbw4 hg4
        go_wp2_with fail
        refine ⟨fun hcl => absurd hcl (by decide), ?_⟩
        iterate 1
          apply Flow.asg _ rfl
          · intro K' hK'
            simp only [Act.put, Act.eval, List.setIfInBounds_toArray, List.set_cons_zero, List.set_cons_succ, arr_getD, List.getD_cons_zero, List.getD_cons_succ]
            exact hK'
        refine Flow.done ?_
        go_wp2_with fail
        exact ⟨⟨i + 1, hlt, by go_num, hbw4, by rw [Hsp.out]; simp only [if_true, List.length_append, ptCells_append, Hpt.out]; exact hown'⟩, by simp [intOf]; omega⟩
    · obtain rfl : i = W * H := by omega
      obtain ⟨P, c, rfl, hp⟩ := own_pts hown
      go_wp2_with fail
      go_ret
      exact ⟨_, _, rfl, hp, w2b.trans hbr⟩

end Go.Proofs.YtkhajhcfplicpaaDoor


/-! profile. -/
namespace Go.Proofs.YtkhajhcfplicpaaDoor
open Go.RowKit

theorem take_count (p : Nat → Bool) (idx : List Nat) (j i : Nat) (h : idx[j]? = some i) : (idx.take (j + 1)).countP p = (idx.take j).countP p + b1 (p i) := by
  rw [List.take_add_one, h]
  simp only [Option.toList_some, List.countP_append]
  cases hp : p i <;> simp [b1, hp]
theorem take_count_le (p : Nat → Bool) (idx : List Nat) (j : Nat) : (idx.take j).countP p ≤ idx.length :=
  Nat.le_trans List.countP_le_length (by rw [List.length_take]; omega)

set_option maxRecDepth 100000 in
set_option maxHeartbeats 4000000 in
theorem profile_any (W H : Nat) (A : Option Addr) (an ac : Nat) (n : Int) (idx : List Nat) (P : Option Addr) (pc : Nat) (w : World) (hP : PtReads w P W idx) (hidx : ∀ i ∈ idx, i < W * H) (hl : idx.length ≤ 1048576)
    (hW : 1 ≤ W ∧ W ≤ 4000) (hH : 1 ≤ H ∧ H ≤ 4000) (hn : -256 ≤ n ∧ n ≤ 256) :
    Calls Tryd.prog 230 #[.agg #[.int .i64 W, .int .i64 H, .slice A an ac], .slice P idx.length pc, .int .i64 n] w fun e w' =>
      ∃ g, e = .returned (.slice (some ⟨g, 0, none⟩) (2 * H) (2 * H)) ∧ w.heap.size ≤ g ∧ Blk w' g 3 (tabI (2 * H) fun k => ((idx.countP (profK W H n k) : Nat) : Int)) ∧ Bl w w' := by
  let w2 := (w).alloc (.cells #[.int .i64 W, .int .i64 H, .slice A an ac] 24)
  have w2b : Bl w w2 := (Bl.refl w).alloc _
  have w21 : Blk w2 (w.heap.size) 24 #[.int .i64 W, .int .i64 H, .slice A an ac] := by
    have h0 := Blk.new (w) 24 #[.int .i64 W, .int .i64 H, .slice A an ac]
    exact h0
  have k1 := w21.all3
  have lw2 : w2.heap.size = w.heap.size + 1 := by simp [w2]
  have hmk := run_make_row' (P := Tryd.prog) 83 3 (.int .i64 0) 8 Tryd.underlying83 info_int rfl .i64 .i64 (2 * H) (by omega) (by omega)
  have eH : 2 * (H : Int) = ((2 * H : Nat) : Int) := by simp
  rw [tabI_made, ← eH] at hmk
  have EH := Lib.hid eH
  have hP2 := hP.bl w2b
  have HP := Lib.hid hP2
  have Hidx := Lib.hid hidx
  clear eH hP hP2 hidx
  go_enter Tryd.func230, Tryd.ntmps230
  go_wp2_with fail
  refine (leans_any W n _ hW.2 hW.1 hn).mono ?_
  rintro e w4 ⟨gs, rfl, hgs, hbs, hb4⟩
  have hbo := (Blk.new w2 3 (tabI (2 * H) fun _ => 0)).bl hb4
  have hb24 : Bl w2 w4 := ((Bl.refl _).alloc _).trans hb4
  have hgs' : w.heap.size + 2 ≤ gs := by have h := hgs; simp only [World.size_alloc] at h; omega
  clear hgs
  clear hb4 hmk
  have start : Blk w4 w2.heap.size 3 (tabI (2 * H) fun k => (((idx.take 0).countP (profK W H n k) : Nat) : Int)) := by simpa using hbo
  have Start := Lib.hid start
  clear start hbo
  go_wp2_with fail
  go_loopw [22] (fun u wr => ∃ j : Nat, j ≤ idx.length ∧ u = .int .i64 j ∧ Bl w2 wr ∧ Blk wr w2.heap.size 3 (tabI (2 * H) fun k => (((idx.take j).countP (profK W H n k) : Nat) : Int)) ∧ Blk wr gs 3 (tabI W (leanI W n))) (fun u _ => idx.length - (intOf u).toNat)
  case atStart => exact ⟨0, Nat.zero_le _, rfl, hb24, Start.out, hbs⟩
  case round =>
    clear k1 hbs hb24
    obtain ⟨j, hj, rfl, hbr, hbo, hbs⟩ := hrel
    by_cases hlt : j < idx.length
    · obtain ⟨pg, eP, hc⟩ := HP.out.bl hbr (by omega)
      subst eP
      obtain ⟨i, hi⟩ : ∃ i, idx[j]? = some i := ⟨_, List.getElem?_eq_getElem hlt⟩
      obtain ⟨hc1, hc2⟩ := hc j i hi
      have hil := Hidx.out i (List.mem_of_getElem? hi)
      have mlt : i % W < W := Nat.mod_lt _ (by omega)
      have dlt : i / W < H := Nat.div_lt_of_lt_mul hil
      have hcl := hbs.tabAt mlt
      have hbd := leanI_bd hW.2 hn mlt
      have hat : ∀ k, profK W H n k i = decide (((H / 2 : Nat) : Int) + ((i / W : Nat) : Int) + leanI W n (i % W) = (k : Int)) := fun _ => rfl
      have htk := fun k => take_count (profK W H n k) idx j i hi
      have htl := fun k => take_count_le (profK W H n k) idx j
      obtain ⟨xi, hxi⟩ : ∃ n, n = i % W := ⟨_, rfl⟩
      obtain ⟨yi, hyi⟩ : ∃ n, n = i / W := ⟨_, rfl⟩
      rw [← hxi] at mlt hcl hbd hc1
      rw [← hyi] at dlt hc2
      rw [← hxi, ← hyi] at hat
      obtain ⟨la, hla⟩ : ∃ l, l = leanI W n xi := ⟨_, rfl⟩
      rw [← hla] at hcl hbd hat
      obtain ⟨hh, hhh⟩ : ∃ n, n = H / 2 := ⟨_, rfl⟩
      rw [← hhh] at hat
      have e5 : (H : Int) / 2 = (hh : Int) := by omega
      have e6 := hhh.symm
      obtain ⟨at_, hat_⟩ : ∃ n : Int, (hh : Int) + (yi : Int) + la = n := ⟨_, rfl⟩
      rw [hat_] at hat
      have bat : -5000 ≤ at_ ∧ at_ ≤ 15000 := by omega
      have bhh : hh ≤ 4000 := by omega
      have Hat := Lib.hid hat; have Htk := Lib.hid htk; have Htl := Lib.hid htl
      clear hat htk htl hxi hyi hla hhh hil hi hc
      go_upto_region 6 with fail
      have hb5 : Bl wr (wr.alloc (.cells #[.int .i64 xi, .int .i64 yi] 279)) := (Bl.refl _).alloc _
      have b5 := Blk.new wr 279 #[.int .i64 xi, .int .i64 yi]
      generalize hw5 : wr.alloc (.cells #[.int .i64 xi, .int .i64 yi] 279) = w5 at hb5 b5 ⊢
      have k5 := b5.all2
      have k1 := (w21.bl (hbr.trans hb5)).all3
      have hcl5 := hb5.at hcl
      have hf5 := (hbs.bl hb5).frozen
      have hbo5 := hbo.bl hb5
      have hbs5 := hbs.bl hb5
      have hbr5 := hbr.trans hb5
      rw [lw2] at hbo5
      clear hw5 hcl hc1 hc2 hbo hbs hbr hb5
      rcases (show at_ < 0 ∨ (¬ at_ < 0 ∧ 2 * (H : Int) ≤ at_) ∨ (0 ≤ at_ ∧ at_ < 2 * (H : Int)) by omega) with hr | ⟨hr, hr2⟩ | ⟨hr, hr2⟩
      · have hstep : tabI (2 * H) (fun k => (((idx.take j).countP (profK W H n k) : Nat) : Int)) = tabI (2 * H) (fun k => (((idx.take (j + 1)).countP (profK W H n k) : Nat) : Int)) :=
          tabI_congr fun k hk => by
            have hx : ¬ (at_ = (k : Int)) := by omega
            rw [Htk.out k, Hat.out k]; simp [b1, hx]
        rw [hstep] at hbo5
        clear hstep
        refine wp_region_flow [(true, 0), (true, 1), (true, 2), (true, 3), (true, 4), (true, 5), (true, 6), (true, 7), (true, 8), (true, 9), (true, 10), (true, 11), (true, 12)] (fun _ => false) (by kernel_rfl) (by kernel_rfl) (by kernel_rfl) (by kernel_rfl) ?_
        iterate 1
          apply Flow.calm2 _ _ rfl rfl
          · intro w' hb' K' hK'
            obtain ⟨hc', hf'⟩ := hb'.rule
            go_simp
            try go_ints
            exact hK'
          · intro K' hK'
            simp only [Act.put, List.setIfInBounds_toArray, List.set_cons_zero, List.set_cons_succ]
            exact hK'
        iterate 1
          apply Flow.calm2 _ _ rfl rfl
          · intro w' hb' K' hK'
            obtain ⟨hc', hf'⟩ := hb'.rule
            go_simp
            try go_ints
            exact hK'
          · intro K' hK'
            simp only [Act.put, List.setIfInBounds_toArray, List.set_cons_zero, List.set_cons_succ]
            exact hK'
        iterate 1
          apply Flow.calm2 _ _ rfl rfl
          · intro w' hb' K' hK'
            obtain ⟨hc', hf'⟩ := hb'.rule
            go_simp
            try go_ints
            exact hK'
          · intro K' hK'
            simp only [Act.put, List.setIfInBounds_toArray, List.set_cons_zero, List.set_cons_succ]
            exact hK'
        iterate 1
          apply Flow.calm2 _ _ rfl rfl
          · intro w' hb' K' hK'
            obtain ⟨hc', hf'⟩ := hb'.rule
            go_simp
            try go_ints
            exact hK'
          · intro K' hK'
            simp only [Act.put, List.setIfInBounds_toArray, List.set_cons_zero, List.set_cons_succ]
            exact hK'
        iterate 1
          apply Flow.calm2 _ _ rfl rfl
          · intro w' hb' K' hK'
            obtain ⟨hc', hf'⟩ := hb'.rule
            go_simp
            try go_ints
            exact hK'
          · intro K' hK'
            simp only [Act.put, List.setIfInBounds_toArray, List.set_cons_zero, List.set_cons_succ]
            exact hK'
        iterate 1
          apply Flow.calm2 _ _ rfl rfl
          · intro w' hb' K' hK'
            obtain ⟨hc', hf'⟩ := hb'.rule
            go_simp
            try go_ints
            exact hK'
          · intro K' hK'
            simp only [Act.put, List.setIfInBounds_toArray, List.set_cons_zero, List.set_cons_succ]
            exact hK'
        iterate 1
          apply Flow.mv _ rfl
          · intro K' hK'
            simp only [Act.put, Act.eval, List.setIfInBounds_toArray, List.set_cons_zero, List.set_cons_succ, arr_getD, List.getD_cons_zero, List.getD_cons_succ]
            exact hK'
        iterate 1
          apply Flow.calm2 _ _ rfl rfl
          · intro w' hb' K' hK'
            obtain ⟨hc', hf'⟩ := hb'.rule
            go_simp
            try go_ints
            exact hK'
          · intro K' hK'
            simp only [Act.put, List.setIfInBounds_toArray, List.set_cons_zero, List.set_cons_succ]
            exact hK'
        iterate 1
          apply Flow.calm2 _ _ rfl rfl
          · intro w' hb' K' hK'
            obtain ⟨hc', hf'⟩ := hb'.rule
            go_simp
            try go_ints
            exact hK'
          · intro K' hK'
            simp only [Act.put, List.setIfInBounds_toArray, List.set_cons_zero, List.set_cons_succ]
            exact hK'
        iterate 1
          apply Flow.calm2 _ _ rfl rfl
          · intro w' hb' K' hK'
            obtain ⟨hc', hf'⟩ := hb'.rule
            go_simp
            try go_ints
            exact hK'
          · intro K' hK'
            simp only [Act.put, List.setIfInBounds_toArray, List.set_cons_zero, List.set_cons_succ]
            exact hK'
        iterate 1
          apply Flow.calm2 _ _ rfl rfl
          · intro w' hb' K' hK'
            obtain ⟨hc', hf'⟩ := hb'.rule
            go_simp
            try go_ints
            exact hK'
          · intro K' hK'
            simp only [Act.put, List.setIfInBounds_toArray, List.set_cons_zero, List.set_cons_succ]
            exact hK'
        iterate 1
          apply Flow.calm2 _ _ rfl rfl
          · intro w' hb' K' hK'
            obtain ⟨hc', hf'⟩ := hb'.rule
            go_simp
            try go_ints
            exact hK'
          · intro K' hK'
            simp only [Act.put, List.setIfInBounds_toArray, List.set_cons_zero, List.set_cons_succ]
            exact hK'
        iterate 1
          apply Flow.asg _ rfl
          · intro K' hK'
            simp only [Act.put, Act.eval, List.setIfInBounds_toArray, List.set_cons_zero, List.set_cons_succ, arr_getD, List.getD_cons_zero, List.getD_cons_succ]
            exact hK'
        refine Flow.done ?_
        go_wp2_with fail
        exact ⟨⟨j + 1, hlt, by go_num, hbr5.drew, by rw [lw2]; exact hbo5.drew, hbs5.drew⟩, by simp [intOf]; omega⟩
      · have hstep : tabI (2 * H) (fun k => (((idx.take j).countP (profK W H n k) : Nat) : Int)) = tabI (2 * H) (fun k => (((idx.take (j + 1)).countP (profK W H n k) : Nat) : Int)) :=
          tabI_congr fun k hk => by
            have hx : ¬ (at_ = (k : Int)) := by omega
            rw [Htk.out k, Hat.out k]; simp [b1, hx]
        rw [hstep] at hbo5
        clear hstep
        refine wp_region_flow [(true, 0), (true, 1), (true, 2), (true, 3), (true, 4), (true, 5), (true, 6), (true, 7), (true, 8), (true, 9), (true, 10), (true, 11), (true, 12)] (fun _ => false) (by kernel_rfl) (by kernel_rfl) (by kernel_rfl) (by kernel_rfl) ?_
        iterate 1
          apply Flow.calm2 _ _ rfl rfl
          · intro w' hb' K' hK'
            obtain ⟨hc', hf'⟩ := hb'.rule
            go_simp
            try go_ints
            exact hK'
          · intro K' hK'
            simp only [Act.put, List.setIfInBounds_toArray, List.set_cons_zero, List.set_cons_succ]
            exact hK'
        iterate 1
          apply Flow.calm2 _ _ rfl rfl
          · intro w' hb' K' hK'
            obtain ⟨hc', hf'⟩ := hb'.rule
            go_simp
            try go_ints
            exact hK'
          · intro K' hK'
            simp only [Act.put, List.setIfInBounds_toArray, List.set_cons_zero, List.set_cons_succ]
            exact hK'
        iterate 1
          apply Flow.calm2 _ _ rfl rfl
          · intro w' hb' K' hK'
            obtain ⟨hc', hf'⟩ := hb'.rule
            go_simp
            try go_ints
            exact hK'
          · intro K' hK'
            simp only [Act.put, List.setIfInBounds_toArray, List.set_cons_zero, List.set_cons_succ]
            exact hK'
        iterate 1
          apply Flow.calm2 _ _ rfl rfl
          · intro w' hb' K' hK'
            obtain ⟨hc', hf'⟩ := hb'.rule
            go_simp
            try go_ints
            exact hK'
          · intro K' hK'
            simp only [Act.put, List.setIfInBounds_toArray, List.set_cons_zero, List.set_cons_succ]
            exact hK'
        iterate 1
          apply Flow.calm2 _ _ rfl rfl
          · intro w' hb' K' hK'
            obtain ⟨hc', hf'⟩ := hb'.rule
            go_simp
            try go_ints
            exact hK'
          · intro K' hK'
            simp only [Act.put, List.setIfInBounds_toArray, List.set_cons_zero, List.set_cons_succ]
            exact hK'
        iterate 1
          apply Flow.calm2 _ _ rfl rfl
          · intro w' hb' K' hK'
            obtain ⟨hc', hf'⟩ := hb'.rule
            go_simp
            try go_ints
            exact hK'
          · intro K' hK'
            simp only [Act.put, List.setIfInBounds_toArray, List.set_cons_zero, List.set_cons_succ]
            exact hK'
        iterate 1
          apply Flow.mv _ rfl
          · intro K' hK'
            simp only [Act.put, Act.eval, List.setIfInBounds_toArray, List.set_cons_zero, List.set_cons_succ, arr_getD, List.getD_cons_zero, List.getD_cons_succ]
            exact hK'
        iterate 1
          apply Flow.calm2 _ _ rfl rfl
          · intro w' hb' K' hK'
            obtain ⟨hc', hf'⟩ := hb'.rule
            go_simp
            try go_ints
            exact hK'
          · intro K' hK'
            simp only [Act.put, List.setIfInBounds_toArray, List.set_cons_zero, List.set_cons_succ]
            exact hK'
        iterate 1
          apply Flow.calm2 _ _ rfl rfl
          · intro w' hb' K' hK'
            obtain ⟨hc', hf'⟩ := hb'.rule
            go_simp
            try go_ints
            exact hK'
          · intro K' hK'
            simp only [Act.put, List.setIfInBounds_toArray, List.set_cons_zero, List.set_cons_succ]
            exact hK'
        iterate 1
          apply Flow.calm2 _ _ rfl rfl
          · intro w' hb' K' hK'
            obtain ⟨hc', hf'⟩ := hb'.rule
            go_simp
            try go_ints
            exact hK'
          · intro K' hK'
            simp only [Act.put, List.setIfInBounds_toArray, List.set_cons_zero, List.set_cons_succ]
            exact hK'
        iterate 1
          apply Flow.calm2 _ _ rfl rfl
          · intro w' hb' K' hK'
            obtain ⟨hc', hf'⟩ := hb'.rule
            go_simp
            try go_ints
            exact hK'
          · intro K' hK'
            simp only [Act.put, List.setIfInBounds_toArray, List.set_cons_zero, List.set_cons_succ]
            exact hK'
        iterate 1
          apply Flow.calm2 _ _ rfl rfl
          · intro w' hb' K' hK'
            obtain ⟨hc', hf'⟩ := hb'.rule
            go_simp
            try go_ints
            exact hK'
          · intro K' hK'
            simp only [Act.put, List.setIfInBounds_toArray, List.set_cons_zero, List.set_cons_succ]
            exact hK'
        iterate 1
          apply Flow.asg _ rfl
          · intro K' hK'
            simp only [Act.put, Act.eval, List.setIfInBounds_toArray, List.set_cons_zero, List.set_cons_succ, arr_getD, List.getD_cons_zero, List.getD_cons_succ]
            exact hK'
        refine Flow.done ?_
        go_wp2_with fail
        exact ⟨⟨j + 1, hlt, by go_num, hbr5.drew, by rw [lw2]; exact hbo5.drew, hbs5.drew⟩, by simp [intOf]; omega⟩
      · obtain ⟨a, rfl⟩ := Int.eq_ofNat_of_zero_le hr
        have ha : a < 2 * H := by omega
        have kc := hbo5.tabAt ha
        have kf := hbo5.frozen a
        have hset := hbo5.tabSet (f' := fun k => (((idx.take (j + 1)).countP (profK W H n k) : Nat) : Int)) a ((((idx.take j).countP (profK W H n a) : Nat) : Int) + 1) (fun k hk => by
          rw [Htk.out k, Hat.out k]
          by_cases e : k = a
          · subst e; simp [b1]
          · have : ¬ ((a : Int) = (k : Int)) := by omega
            simp [e, this, b1])
        have hcb := Htl.out a
        obtain ⟨c, hc⟩ : ∃ c, c = (idx.take j).countP (profK W H n a) := ⟨_, rfl⟩
        rw [← hc] at kc hset hcb
        have Hset := Lib.hid hset; have Hc := Lib.hid hc
        clear hset hc
        refine wp_region_flow [(true, 0), (true, 1), (true, 2), (true, 3), (true, 4), (true, 5), (true, 6), (true, 7), (true, 8), (true, 9), (true, 10), (true, 11), (true, 12)] (fun _ => false) (by kernel_rfl) (by kernel_rfl) (by kernel_rfl) (by kernel_rfl) ?_
        iterate 1
          apply Flow.calm2 _ _ rfl rfl
          · intro w' hb' K' hK'
            obtain ⟨hc', hf'⟩ := hb'.rule
            go_simp
            try go_ints
            exact hK'
          · intro K' hK'
            simp only [Act.put, List.setIfInBounds_toArray, List.set_cons_zero, List.set_cons_succ]
            exact hK'
        iterate 1
          apply Flow.calm2 _ _ rfl rfl
          · intro w' hb' K' hK'
            obtain ⟨hc', hf'⟩ := hb'.rule
            go_simp
            try go_ints
            exact hK'
          · intro K' hK'
            simp only [Act.put, List.setIfInBounds_toArray, List.set_cons_zero, List.set_cons_succ]
            exact hK'
        iterate 1
          apply Flow.calm2 _ _ rfl rfl
          · intro w' hb' K' hK'
            obtain ⟨hc', hf'⟩ := hb'.rule
            go_simp
            try go_ints
            exact hK'
          · intro K' hK'
            simp only [Act.put, List.setIfInBounds_toArray, List.set_cons_zero, List.set_cons_succ]
            exact hK'
        iterate 1
          apply Flow.calm2 _ _ rfl rfl
          · intro w' hb' K' hK'
            obtain ⟨hc', hf'⟩ := hb'.rule
            go_simp
            try go_ints
            exact hK'
          · intro K' hK'
            simp only [Act.put, List.setIfInBounds_toArray, List.set_cons_zero, List.set_cons_succ]
            exact hK'
        iterate 1
          apply Flow.calm2 _ _ rfl rfl
          · intro w' hb' K' hK'
            obtain ⟨hc', hf'⟩ := hb'.rule
            go_simp
            try go_ints
            exact hK'
          · intro K' hK'
            simp only [Act.put, List.setIfInBounds_toArray, List.set_cons_zero, List.set_cons_succ]
            exact hK'
        iterate 1
          apply Flow.calm2 _ _ rfl rfl
          · intro w' hb' K' hK'
            obtain ⟨hc', hf'⟩ := hb'.rule
            go_simp
            try go_ints
            exact hK'
          · intro K' hK'
            simp only [Act.put, List.setIfInBounds_toArray, List.set_cons_zero, List.set_cons_succ]
            exact hK'
        iterate 1
          apply Flow.mv _ rfl
          · intro K' hK'
            simp only [Act.put, Act.eval, List.setIfInBounds_toArray, List.set_cons_zero, List.set_cons_succ, arr_getD, List.getD_cons_zero, List.getD_cons_succ]
            exact hK'
        iterate 1
          apply Flow.calm2 _ _ rfl rfl
          · intro w' hb' K' hK'
            obtain ⟨hc', hf'⟩ := hb'.rule
            go_simp
            try go_ints
            exact hK'
          · intro K' hK'
            simp only [Act.put, List.setIfInBounds_toArray, List.set_cons_zero, List.set_cons_succ]
            exact hK'
        iterate 1
          apply Flow.calm2 _ _ rfl rfl
          · intro w' hb' K' hK'
            obtain ⟨hc', hf'⟩ := hb'.rule
            go_simp
            try go_ints
            exact hK'
          · intro K' hK'
            simp only [Act.put, List.setIfInBounds_toArray, List.set_cons_zero, List.set_cons_succ]
            exact hK'
        iterate 1
          apply Flow.calm2 _ _ rfl rfl
          · intro w' hb' K' hK'
            obtain ⟨hc', hf'⟩ := hb'.rule
            go_simp
            try go_ints
            exact hK'
          · intro K' hK'
            simp only [Act.put, List.setIfInBounds_toArray, List.set_cons_zero, List.set_cons_succ]
            exact hK'
        iterate 1
          apply Flow.calm2 _ _ rfl rfl
          · intro w' hb' K' hK'
            obtain ⟨hc', hf'⟩ := hb'.rule
            go_simp
            try go_ints
            exact hK'
          · intro K' hK'
            simp only [Act.put, List.setIfInBounds_toArray, List.set_cons_zero, List.set_cons_succ]
            exact hK'
        iterate 1
          apply Flow.calm2 _ _ rfl rfl
          · intro w' hb' K' hK'
            obtain ⟨hc', hf'⟩ := hb'.rule
            go_simp
            try go_ints
            exact hK'
          · intro K' hK'
            simp only [Act.put, List.setIfInBounds_toArray, List.set_cons_zero, List.set_cons_succ]
            exact hK'
        iterate 1
          apply Flow.asg _ rfl
          · intro K' hK'
            simp only [Act.put, Act.eval, List.setIfInBounds_toArray, List.set_cons_zero, List.set_cons_succ, arr_getD, List.getD_cons_zero, List.getD_cons_succ]
            exact hK'
        refine Flow.done ?_
        go_wp2_with fail
        exact ⟨⟨j + 1, hlt, by go_num, (hbr5.setCell (by simp; omega) _).drew, by rw [lw2]; exact Hset.out.drew, (hbs5.far (by simp; omega) _).drew⟩, by simp [intOf]; omega⟩
    · obtain rfl : j = idx.length := by omega
      rw [List.take_length] at hbo
      go_wp2_with fail
      go_ret
      rw [lw2] at hbo
      exact ⟨_, rfl, by omega, hbo, w2b.trans hbr⟩

end Go.Proofs.YtkhajhcfplicpaaDoor


/-! Profile, Score, skews. -/
namespace Go.Proofs.YtkhajhcfplicpaaDoor
open Go.RowKit

def profI (bs : List Bool) (W H : Nat) (n : Int) (k : Nat) : Int := ((profN bs W H n k : Nat) : Int)
def scoreI (bs : List Bool) (W H : Nat) (n : Int) : Int := sqN (profI bs W H n) (2 * H)
/-- A profile if the error is 0, nothing else. -/
def ProfRes (w : World) (err : Int) (bs : List Bool) (W H : Int) (n : Int) (P : Option Addr) (m : Nat) : Prop :=
  (err = 0 → m = 2 * H.toNat ∧ Reads w 1 P m ((tabL m (profI bs W.toNat H.toNat n)).map (.int .i64))) ∧ (err ≠ 0 → m = 0 ∧ P = none)
theorem ProfRes.bl {w w' : World} {err : Int} {bs : List Bool} {W H n : Int} {P : Option Addr} {m : Nat} (h : ProfRes w err bs W H n P m) (hb : Bl w w') : ProfRes w' err bs W H n P m :=
  ⟨fun e => ⟨(h.1 e).1, (h.1 e).2.bl hb⟩, h.2⟩
theorem prof_count (bs : List Bool) (W H : Nat) (n : Int) (k : Nat) : (((spotL bs (W * H)).countP (profK W H n k) : Nat) : Int) = profI bs W H n k := by
  unfold profI profN
  rw [spotL_count]

theorem profI_bd {bs : List Bool} {W H : Nat} {n : Int} (h : W * H ≤ 1048576) (k : Nat) : 0 ≤ profI bs W H n k ∧ profI bs W H n k ≤ 1048576 := by
  have := profN_le bs W H n k
  unfold profI
  omega

theorem score_one : scoreI [true] 1 1 0 = 1 := by decide
end Go.Proofs.YtkhajhcfplicpaaDoor
