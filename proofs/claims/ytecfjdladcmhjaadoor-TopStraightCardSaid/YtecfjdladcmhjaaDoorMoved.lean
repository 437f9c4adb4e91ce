/- skew.moved. -/
import Derived.Test.YtecfjdladcmhjaaDoorMovedLaw
import Derived.Test.YtecfjdladcmhjaaDoorFlow2
namespace Go.Proofs.YtecfjdladcmhjaaDoor
open Go.RowKit

set_option maxRecDepth 100000 in
set_option maxHeartbeats 4000000 in
theorem moved_any (W H : Nat) (A : Option Addr) (ac : Nat) (bs : List Bool) (T : Nat → Nat → Int × Int) (kf : FuncId) (cap : Array Value) (w : World) (hA : Reads w 1 A (W * H) (bs.map .bool)) (hW : 1 ≤ W ∧ W ≤ 4000) (hH : H ≤ 4000) (hbd : W * H ≤ 1048576)
    (hent : ∀ args w, (callFunc kf args).run Tryd.prog w = .ok (.enter kf args) w)
    (hT : ∀ wx (x y : Nat), Bl w wx → x < W → y < H → Calls Tryd.prog kf (#[.int .i64 x, .int .i64 y] ++ cap) wx fun e w' => e = .returned (.tuple #[.int .i64 (T x y).1, .int .i64 (T x y).2]) ∧ Bl wx w')
    (hTb : ∀ x y, x < W → y < H → (-10000 ≤ (T x y).1 ∧ (T x y).1 ≤ 10000) ∧ (-10000 ≤ (T x y).2 ∧ (T x y).2 ≤ 10000)) :
    Calls Tryd.prog 110 #[.agg #[.int .i64 W, .int .i64 H, .slice A (W * H) ac], .func (.func kf) #[] cap] w fun e w' =>
      ∃ g, e = .returned (.agg #[.int .i64 W, .int .i64 H, .slice (some ⟨g, 0, none⟩) (W * H) (W * H)]) ∧ w.heap.size ≤ g ∧ Blk w' g 4 (tabB (W * H) (hitTo bs W T (W * H))) ∧ Bl w w' := by
  let w2 := ((w).alloc (.cells #[.int .i64 W, .int .i64 H, .slice A (W * H) ac] 24)).alloc (.cells #[.int .i64 0, .int .i64 0, .slice none 0 0] 24)
  have w2b : Bl w w2 := ((Bl.refl w).alloc _).alloc _
  have w21 : Blk w2 (w.heap.size) 24 #[.int .i64 W, .int .i64 H, .slice A (W * H) ac] := by
    have h0 := Blk.new (w) 24 #[.int .i64 W, .int .i64 H, .slice A (W * H) ac]
    exact (h0.alloc _)
  have w22 : Blk w2 (w.heap.size + 1) 24 #[.int .i64 0, .int .i64 0, .slice none 0 0] := by
    have h0 := Blk.new ((w).alloc (.cells #[.int .i64 W, .int .i64 H, .slice A (W * H) ac] 24)) 24 #[.int .i64 0, .int .i64 0, .slice none 0 0]
    simp only [World.size_alloc] at h0
    exact h0
  have k1 := w21.all3
  have lw2 : w2.heap.size = w.heap.size + 2 := by simp [w2]
  have hWH : (W : Int) * (H : Int) = ((W * H : Nat) : Int) := by simp
  have hmk := run_make_row' (P := Tryd.prog) 22 4 (.bool false) 1 Tryd.underlying22 info_bool rfl .i64 .i64 (W * H) (by omega) (by omega)
  rw [tabB_made, ← hWH] at hmk
  have HT := Lib.hid hT; have HTb := Lib.hid hTb; have HWH := Lib.hid hWH
  have HA := Lib.hid hA
  clear hT hTb hWH hA
  go_enter Tryd.func110, Tryd.ntmps110
  go_upto_region 1 with fail
  go_cut [5] from 10 (fun s5 wc => ∃ p g, s5 = .pointer (some ⟨p, 0, none⟩) ∧ p ≠ g ∧ w.heap.size + 2 ≤ p ∧ w.heap.size + 2 ≤ g ∧ Blk wc p 24 #[.int .i64 W, .int .i64 H, .slice (some ⟨g, 0, none⟩) (W * H) (W * H)] ∧ Blk wc g 4 (tabB (W * H) fun _ => false) ∧ Bl w2 wc)
  case first =>
    refine wp_region_fork [(true, 0), (true, 1), (true, 2), (true, 3), (true, 4), (true, 5), (true, 6)] 7 [(true, 8), (false, 9), (false, 10)] 9 [(false, 7), (true, 8), (false, 10)] (fun i => i == 10) (by kernel_rfl) (by kernel_rfl) (by kernel_rfl) (by kernel_rfl) ?_
    iterate 1
      apply Flow.calm2 _ _ rfl rfl
      · intro w' hb' K' hK'
        obtain ⟨hc', hf'⟩ := hb'.rule
        go_simp
        try go_ints
        exact hK'
      · intro K' hK'
        simp only [Act.put, List.setIfInBounds_toArray, List.set_cons_zero, List.set_cons_succ]
        exact hK'
    iterate 1
      apply Flow.calm2 _ _ rfl rfl
      · intro w' hb' K' hK'
        obtain ⟨hc', hf'⟩ := hb'.rule
        go_simp
        try go_ints
        exact hK'
      · intro K' hK'
        simp only [Act.put, List.setIfInBounds_toArray, List.set_cons_zero, List.set_cons_succ]
        exact hK'
    iterate 1
      apply Flow.calm2 _ _ rfl rfl
      · intro w' hb' K' hK'
        obtain ⟨hc', hf'⟩ := hb'.rule
        go_simp
        try go_ints
        exact hK'
      · intro K' hK'
        simp only [Act.put, List.setIfInBounds_toArray, List.set_cons_zero, List.set_cons_succ]
        exact hK'
    iterate 1
      apply Flow.calm2 _ _ rfl rfl
      · intro w' hb' K' hK'
        obtain ⟨hc', hf'⟩ := hb'.rule
        go_simp
        try go_ints
        exact hK'
      · intro K' hK'
        simp only [Act.put, List.setIfInBounds_toArray, List.set_cons_zero, List.set_cons_succ]
        exact hK'
    iterate 1
      apply Flow.calm2 _ _ rfl rfl
      · intro w' hb' K' hK'
        obtain ⟨hc', hf'⟩ := hb'.rule
        go_simp
        try go_ints
        exact hK'
      · intro K' hK'
        simp only [Act.put, List.setIfInBounds_toArray, List.set_cons_zero, List.set_cons_succ]
        exact hK'
    iterate 1
      apply Flow.calm2 _ _ rfl rfl
      · intro w' hb' K' hK'
        obtain ⟨hc', hf'⟩ := hb'.rule
        go_simp
        try go_ints
        exact hK'
      · intro K' hK'
        simp only [Act.put, List.setIfInBounds_toArray, List.set_cons_zero, List.set_cons_succ]
        exact hK'
    iterate 1
      apply Flow.calm2 _ _ rfl rfl
      · intro w' hb' K' hK'
        obtain ⟨hc', hf'⟩ := hb'.rule
        go_simp
        try go_ints
        exact hK'
      · intro K' hK'
        simp only [Act.put, List.setIfInBounds_toArray, List.set_cons_zero, List.set_cons_succ]
        exact hK'
    refine Flow.fork ?_
    refine ⟨?_, ?_⟩
    · apply Flow.move rfl
      go_wp2_with fail
      refine ⟨fun _ => ?_, ?_⟩
      · repeat' (first | exact Bl.refl _ | refine Bl.drewL ?_ | refine Bl.drew ?_ | refine Bl.alloc ?_ _)
      iterate 1
        apply Flow.calm2 _ _ rfl rfl
        · intro w' hb' K' hK'
          obtain ⟨hc', hf'⟩ := hb'.rule
          go_simp
          try go_ints
          exact hK'
        · intro K' hK'
          simp only [Act.put, List.setIfInBounds_toArray, List.set_cons_zero, List.set_cons_succ]
          exact hK'
      apply Flow.move rfl
      go_wp2_with fail
      refine ⟨fun _ => ?_, ?_⟩
      · repeat' (first | exact Bl.refl _ | refine Bl.drewL ?_ | refine Bl.drew ?_ | refine Bl.alloc ?_ _)
      refine Flow.tail _ rfl ?_
      go_wp2_with fail
      go_meet
      case rel =>
        refine ⟨w.heap.size + 3, w.heap.size + 2, rfl, by omega, by omega, by omega, ?_, ?_, ?_⟩
        · have h := Blk.new (w2.alloc (.cells (tabB (W * H) fun _ => false) 4)) 24 #[.int .i64 W, .int .i64 H, .slice (some ⟨w.heap.size + 2, 0, none⟩) (W * H) (W * H)]
          rw [World.size_alloc, lw2] at h
          exact h.drew
        · have h := Blk.new w2 4 (tabB (W * H) fun _ => false)
          rw [lw2] at h
          exact (h.alloc _).drew
        · exact (((Bl.refl w2).alloc _).alloc _).drew
    · apply Flow.move rfl
      go_wp2_with fail
      refine ⟨fun _ => ?_, ?_⟩
      · repeat' (first | exact Bl.refl _ | refine Bl.drewL ?_ | refine Bl.drew ?_ | refine Bl.alloc ?_ _)
      apply Flow.move rfl
      go_wp2_with fail
      refine ⟨fun _ => ?_, ?_⟩
      · repeat' (first | exact Bl.refl _ | refine Bl.drewL ?_ | refine Bl.drew ?_ | refine Bl.alloc ?_ _)
      iterate 1
        apply Flow.calm2 _ _ rfl rfl
        · intro w' hb' K' hK'
          obtain ⟨hc', hf'⟩ := hb'.rule
          go_simp
          try go_ints
          exact hK'
        · intro K' hK'
          simp only [Act.put, List.setIfInBounds_toArray, List.set_cons_zero, List.set_cons_succ]
          exact hK'
      refine Flow.tail _ rfl ?_
      go_wp2_with fail
      go_meet
      case rel =>
        refine ⟨w.heap.size + 2, w.heap.size + 3, rfl, by omega, by omega, by omega, ?_, ?_, ?_⟩
        · have h := Blk.new w2 24 #[.int .i64 W, .int .i64 H, .slice (some ⟨w.heap.size + 3, 0, none⟩) (W * H) (W * H)]
          rw [lw2] at h
          exact (h.alloc _).drew
        · have h := Blk.new (w2.alloc (.cells #[.int .i64 W, .int .i64 H, .slice (some ⟨w.heap.size + 3, 0, none⟩) (W * H) (W * H)] 24)) 4 (tabB (W * H) fun _ => false)
          rw [World.size_alloc, lw2] at h
          exact h.drew
        · exact (((Bl.refl w2).alloc _).alloc _).drew
  case rest =>
    obtain ⟨p, g, rfl, hpg, hp, hg, hbp, hbg, hbc⟩ := hcut
    clear k1 hmk
    have k1 := (w21.bl hbc).all3
    go_wp2_with fail
    go_loopw [22] (fun u wr => ∃ i : Nat, i ≤ W * H ∧ u = .int .i64 i ∧ Bl w2 wr ∧ Blk wr p 24 #[.int .i64 W, .int .i64 H, .slice (some ⟨g, 0, none⟩) (W * H) (W * H)] ∧ Blk wr g 4 (tabB (W * H) (hitTo bs W T i))) (fun u _ => W * H - (intOf u).toNat)
    case atStart => exact ⟨0, Nat.zero_le _, rfl, hbc, hbp, hbg⟩
    case round =>
      clear k1 hbc hbp hbg
      obtain ⟨i, hi, rfl, hbr, hbp, hbg⟩ := hrel
      have k1 := (w21.bl hbr).all3
      by_cases hlt : i < W * H
      · have hWp : ¬ (W = 0) := by omega
        have il : (i : Int) < (W : Int) * (H : Int) := by have := HWH.out; omega
        obtain ⟨ad, ua, eA, hu, hca⟩ := (HA.out.bl (w2b.trans hbr)).at_ hlt
        have hua : ua = .bool (bs.getD i false) := by
          simp only [List.getElem?_map, Option.map_eq_some_iff] at hu
          obtain ⟨b, hb1, hb2⟩ := hu
          rw [← hb2, List.getD, hb1]; rfl
        clear hu
        subst hua eA
        have mlt : i % W < W := Nat.mod_lt _ (by omega)
        have dlt : i / W < H := Nat.div_lt_of_lt_mul hlt
        cases hva : bs.getD i false
        · have hno : tabB (W * H) (hitTo bs W T (i + 1)) = tabB (W * H) (hitTo bs W T i) := tabB_congr fun k _ => hitTo_no hva k
          rw [← hno] at hbg
          rw [hva] at hca
          have Hva := Lib.hid hva
          clear hno hva
          go_wp2_with fail
          exact ⟨⟨i + 1, hlt, by go_num, hbr, hbp, hbg⟩, by simp [intOf]; omega⟩
        · rw [hva] at hca
          have hout := fun x y => hitTo_out (bs := bs) (W := W) (H := H) (m := i) (T := T) (x := x) (y := y)
          have hin := fun X Y => hitTo_in (bs := bs) (W := W) (H := H) (m := i) (X := X) (Y := Y) (T := T) hva
          have htb := HTb.out (i % W) (i / W) mlt dlt
          have htc := fun wx (h : Bl w2 wx) => HT.out wx (i % W) (i / W) (w2b.trans h) mlt dlt
          obtain ⟨xi, hxi⟩ : ∃ n, n = i % W := ⟨_, rfl⟩
          obtain ⟨yi, hyi⟩ : ∃ n, n = i / W := ⟨_, rfl⟩
          have e1 : (i : Int) % (W : Int) = (xi : Int) := by rw [hxi]; simp
          have e2 : (i : Int) / (W : Int) = (yi : Int) := by rw [hyi]; simp
          have e3 := hxi.symm
          have e4 := hyi.symm
          rw [← hxi, ← hyi] at htb htc
          simp only [← hxi, ← hyi] at hout hin
          rw [← hxi] at mlt
          rw [← hyi] at dlt
          obtain ⟨tx, ty, ht⟩ : ∃ tx ty, T xi yi = (tx, ty) := ⟨_, _, rfl⟩
          rw [ht] at htb htc
          simp only [ht] at hout hin
          simp only [] at htb htc
          have Hva := Lib.hid hva; have Hout := Lib.hid (hout tx ty rfl); have Hin := Lib.hid hin; have Htc := Lib.hid htc
          clear hva hxi hyi hout hin htc ht
          go_upto_region 6 with fail
          refine wp_region_flow [(true, 0), (true, 1), (true, 2), (true, 3), (true, 4), (true, 5), (true, 6), (true, 7), (true, 8), (false, 9), (true, 10), (true, 11), (true, 12), (true, 13), (true, 14)] (fun _ => false) (by kernel_rfl) (by kernel_rfl) (by kernel_rfl) (by kernel_rfl) ?_
          iterate 2
            apply Flow.mv _ rfl
            · intro K' hK'
              simp only [Act.put, Act.eval, List.setIfInBounds_toArray, List.set_cons_zero, List.set_cons_succ, arr_getD, List.getD_cons_zero, List.getD_cons_succ]
              exact hK'
          iterate 1
            apply Flow.calm2 _ _ rfl rfl
            · intro w' hb' K' hK'
              obtain ⟨hc', hf'⟩ := hb'.rule
              go_simp
              try go_ints
              exact hK'
            · intro K' hK'
              simp only [Act.put, List.setIfInBounds_toArray, List.set_cons_zero, List.set_cons_succ]
              exact hK'
          iterate 1
            apply Flow.calm2 _ _ rfl rfl
            · intro w' hb' K' hK'
              obtain ⟨hc', hf'⟩ := hb'.rule
              go_simp
              try go_ints
              exact hK'
            · intro K' hK'
              simp only [Act.put, List.setIfInBounds_toArray, List.set_cons_zero, List.set_cons_succ]
              exact hK'
          iterate 1
            apply Flow.calm2 _ _ rfl rfl
            · intro w' hb' K' hK'
              obtain ⟨hc', hf'⟩ := hb'.rule
              go_simp
              try go_ints
              exact hK'
            · intro K' hK'
              simp only [Act.put, List.setIfInBounds_toArray, List.set_cons_zero, List.set_cons_succ]
              exact hK'
          iterate 1
            apply Flow.mv _ rfl
            · intro K' hK'
              simp only [Act.put, Act.eval, List.setIfInBounds_toArray, List.set_cons_zero, List.set_cons_succ, arr_getD, List.getD_cons_zero, List.getD_cons_succ]
              exact hK'
          iterate 1
            apply Flow.calm2 _ _ rfl rfl
            · intro w' hb' K' hK'
              obtain ⟨hc', hf'⟩ := hb'.rule
              go_simp
              try go_ints
              exact hK'
            · intro K' hK'
              simp only [Act.put, List.setIfInBounds_toArray, List.set_cons_zero, List.set_cons_succ]
              exact hK'
          iterate 1
            apply Flow.calm2 _ _ rfl rfl
            · intro w' hb' K' hK'
              obtain ⟨hc', hf'⟩ := hb'.rule
              go_simp
              try go_ints
              exact hK'
            · intro K' hK'
              simp only [Act.put, List.setIfInBounds_toArray, List.set_cons_zero, List.set_cons_succ]
              exact hK'
          iterate 1
            apply Flow.calm2 _ _ rfl rfl
            · intro w' hb' K' hK'
              obtain ⟨hc', hf'⟩ := hb'.rule
              go_simp
              try go_ints
              exact hK'
            · intro K' hK'
              simp only [Act.put, List.setIfInBounds_toArray, List.set_cons_zero, List.set_cons_succ]
              exact hK'
          apply Flow.move rfl
          go_wp2_with fail
          refine (Htc.out _ (hbr.trans (Bl.refl _).drew)).mono ?_
          rintro e w5 ⟨rfl, HB1⟩
          go_wp2_with fail
          refine ⟨fun _ => (by first | exact HB1 | exact Bl.refl _), ?_⟩
          iterate 1
            apply Flow.mv _ rfl
            · intro K' hK'
              simp only [Act.put, Act.eval, List.setIfInBounds_toArray, List.set_cons_zero, List.set_cons_succ, arr_getD, List.getD_cons_zero, List.getD_cons_succ]
              exact hK'
          iterate 2
            apply Flow.calm2 _ _ rfl rfl
            · intro w' hb' K' hK'
              obtain ⟨hc', hf'⟩ := hb'.rule
              go_simp
              try go_ints
              exact hK'
            · intro K' hK'
              simp only [Act.put, List.setIfInBounds_toArray, List.set_cons_zero, List.set_cons_succ]
              exact hK'
          iterate 2
            apply Flow.asg _ rfl
            · intro K' hK'
              simp only [Act.put, Act.eval, List.setIfInBounds_toArray, List.set_cons_zero, List.set_cons_succ, arr_getD, List.getD_cons_zero, List.getD_cons_succ]
              exact hK'
          refine Flow.done ?_
          have hb5 := Bl.ofDrew HB1
          have hbr5 := hbr.trans hb5
          have k5 := (w21.bl hbr5).all3
          have hbp5 := hbp.bl hb5
          have hbg5 := hbg.bl hb5
          clear k1 hbp hbg hb5 HB1 hca
          rcases (show tx < 0 ∨ (0 ≤ tx ∧ (W : Int) ≤ tx) ∨ (0 ≤ tx ∧ tx < W ∧ ty < 0) ∨ (0 ≤ tx ∧ tx < W ∧ 0 ≤ ty ∧ (H : Int) ≤ ty) ∨ (0 ≤ tx ∧ tx < W ∧ 0 ≤ ty ∧ ty < H) by omega) with hw | hw | hw | hw | ⟨w1, w3, w4, w6⟩
          iterate 4
            · have hno : tabB (W * H) (hitTo bs W T (i + 1)) = tabB (W * H) (hitTo bs W T i) := tabB_congr fun k hk => Hout.out (by omega) k hk
              rw [← hno] at hbg5
              clear hno
              go_wp2_with fail
              exact ⟨⟨i + 1, hlt, by go_num, hbr5, hbp5, hbg5⟩, by simp [intOf]; omega⟩
          · obtain ⟨X, rfl⟩ := Int.eq_ofNat_of_zero_le w1
            obtain ⟨Y, rfl⟩ := Int.eq_ofNat_of_zero_le w4
            have lX : X < W := by omega
            have lY : Y < H := by omega
            have hk := place_lt lX lY
            have hset := hbg5.tabSetB (f' := hitTo bs W T (i + 1)) (Y * W + X) true (fun k hk => Hin.out X Y rfl lX k hk)
            have kp5 := hbp5.all3
            have kc := hbg5.tabAtB hk
            have kf := hbg5.frozen (Y * W + X)
            obtain ⟨k, hkk⟩ : ∃ k, k = Y * W + X := ⟨_, rfl⟩
            rw [← hkk] at hk hset kc kf
            have f1 : (Y : Int) * (W : Int) + (X : Int) = (k : Int) := by rw [hkk]; simp
            have f2 : (k : Int) < (W : Int) * (H : Int) := by have := HWH.out; omega
            have f3 : (0 : Int) ≤ (Y : Int) * (W : Int) ∧ (Y : Int) * (W : Int) ≤ 16000000 := by
              have := Int.natCast_mul Y W
              have := Nat.mul_le_mul (show Y ≤ 4000 by omega) hW.2
              omega
            have Hset := Lib.hid hset; have Hkk := Lib.hid hkk
            clear hset hkk
            go_wp2_with fail
            exact ⟨⟨i + 1, hlt, by go_num, hbr5.setCell (by simp; omega) _, hbp5.far (by simp; omega) _, Hset.out⟩, by simp [intOf]; omega⟩
      · obtain rfl : i = W * H := by omega
        have kp := hbp.all3
        have k2 := (w22.bl hbr).all3
        go_wp2_with fail
        refine bodyPost_ret (v := .agg #[.int .i64 W, .int .i64 H, .slice (some ⟨g, 0, none⟩) (W * H) (W * H)]) (by simp [results, Tryd.results110, go_sem, k2]) rfl ⟨g, rfl, by omega, ?_, ?_⟩
        · exact (((hbg.far (by simp; omega) _).far (by simp; omega) _).far (by simp; omega) _)
        · exact ((((w2b.trans hbr).setCell (by simp) _).setCell (by simp) _).setCell (by simp) _)

end Go.Proofs.YtecfjdladcmhjaaDoor
