/- page.Print: a small page as a text. -/
import Derived.Test.YtjelhdpcaileiaaGreatDoorS7
import Derived.Test.YtjelhdpcaileiaaGreatDoorS2
import Derived.Laws.OwnMore
import Derived.Laws.IdiomStrings
import Derived.Deep.AppendLies
import Derived.Lib.UnsafeStr

namespace Go.Proofs.YtjelhdpcaileiaaGreatDoor
open Go.RowKit

def printErr (W H : Int) (n : Nat) : Int := firstNZ [pageErr W H n, whenI (decide (200 < W) || decide (200 < H)) 4]
theorem printErr_zero {W H : Int} {n : Nat} (h : printErr W H n = 0) : pageErr W H n = 0 ∧ W ≤ 200 ∧ H ≤ 200 := by
  unfold printErr at h
  by_cases h0 : pageErr W H n = 0
  · simp only [firstNZ, if_pos h0] at h
    refine ⟨h0, ?_⟩
    cases e : (decide (200 < W) || decide (200 < H))
    · simp only [Bool.or_eq_false_iff, decide_eq_false_iff_not] at e
      omega
    · rw [e] at h; simp [whenI] at h
  · simp only [firstNZ, if_neg h0] at h; exact absurd h h0
theorem set_last (xs : List Value) (a b : Value) (n : Nat) (h : xs.length = n) : (xs ++ [a]).set n b = xs ++ [b] := by
  subst h
  simp
theorem last_cell {w : World} {B g cap n : Nat} {e : TypeId} {l : List Value} {v : Value} (h : w.ownsRow B e 1 (.slice (some ⟨g, 0, none⟩) (n + 1) cap) (n + 1) (l ++ [v])) (hl : l.length = n) : w.cell? ⟨g, n, none⟩ = some v := by
  rw [h.cellAt n (by omega), List.getElem?_append_right (by omega), hl, Nat.sub_self]
  rfl
theorem byteCells_push (l : List UInt8) (b : UInt8) (v : Int) (h : v = (b.toNat : Int)) : Lib.byteCells l ++ [.int .u8 v] = Lib.byteCells (l ++ [b]) := by
  rw [Lib.byteCells_append, h]
  rfl

set_option maxRecDepth 100000 in
set_option maxHeartbeats 4000000 in
theorem print_ok (W H : Nat) (A : Option Addr) (ac : Nat) (bs : List Bool) (w : World) (hA : Reads w 1 A (W * H) (bs.map .bool)) (hp : pageErr W H (W * H) = 0) (hW : 1 ≤ W ∧ W ≤ 200) (hH : H ≤ 200) :
    Calls Tryz.prog 70 #[.agg #[.int .i64 W, .int .i64 H, .slice A (W * H) ac]] w fun e w' => e = .returned (.tuple #[.string ⟨(prL bs W H).toArray⟩, .int .i64 0]) ∧ Bl w w' := by
  let w2 := (w).alloc (.cells #[.int .i64 W, .int .i64 H, .slice A (W * H) ac] 28)
  have w2b : Bl w w2 := (Bl.refl w).alloc _
  have w21 : Blk w2 (w.heap.size) 28 #[.int .i64 W, .int .i64 H, .slice A (W * H) ac] := by
    have h0 := Blk.new (w) 28 #[.int .i64 W, .int .i64 H, .slice A (W * H) ac]
    exact h0
  have k1 := w21.all3
  have lw2 : w2.heap.size = w.heap.size + 1 := by simp [w2]
  have HA := Lib.hid (hA.bl w2b)
  have hq : (pageErr W H (W * H) != 0) = false := by simp [hp]
  have HH0 := Lib.hid (show H ≠ 0 by have := sizeErr_zero (pageErr_zero hp).1; omega)
  clear hA hp
  go_enter Tryz.func70, Tryz.ntmps70
  go_wp2_with fail
  refine (checkBits_any _ _ _ _ _ _).mono ?_
  rintro e w3 ⟨rfl, hb3⟩
  have k3 := (w21.bl hb3).all3
  clear k1
  have ho0 : w3.ownsRow (w.heap.size + 1) 5 1 (.slice none 0 0) (outP bs W 0).length (Lib.byteCells (outP bs W 0)) := by rw [outP_zero]; exact World.ownsRow_nil _ _ _ _
  have Ho0 := Lib.hid ho0
  clear ho0
  go_wp2_with fail
  go_loopw [5, 24] (fun v u wr => ∃ i : Nat, i ≤ W * H ∧ u = .int .i64 i ∧ Bl w2 wr ∧ wr.ownsRow (w.heap.size + 1) 5 1 v (outP bs W i).length (Lib.byteCells (outP bs W i))) (fun _ u _ => W * H - (RowKit.intOf u).toNat)
  case atStart => exact ⟨0, Nat.zero_le _, rfl, hb3, Ho0.out⟩
  case round =>
    obtain ⟨i, hi, rfl, hbr, hown⟩ := hrel
    clear k3
    have hln := outP_len bs hW hH hi
    by_cases hlt : i < W * H
    · have il : (i : Int) < (W : Int) * (H : Int) := by have := Int.natCast_mul W H; omega
      obtain ⟨ad, ua, rfl, hu, hca⟩ := (HA.out.bl hbr).at_ hlt
      have hua : ua = .bool (bs.getD i false) := by
        simp only [List.getElem?_map, Option.map_eq_some_iff] at hu
        obtain ⟨b, hb1, hb2⟩ := hu
        rw [← hb2, List.getD, hb1]; rfl
      clear hu
      subst hua
      have HMid := Lib.hid (fun (h : i % W ≠ W - 1) => outP_mid (bs := bs) h hW.1)
      have HEnd := Lib.hid (fun (h : i % W = W - 1) => outP_end (bs := bs) h hW.1)
      obtain ⟨va, hva⟩ : ∃ v, v = bs.getD i false := ⟨_, rfl⟩
      rw [← hva] at hca HMid HEnd
      have mlt : i % W < W := Nat.mod_lt _ hW.1
      have hWp : ¬ (W = 0) := by omega
      have hib : i ≤ 40000 := Nat.le_trans hi (Nat.le_trans (Nat.mul_le_mul hW.2 hH) (by decide))
      obtain ⟨xi, hxi⟩ : ∃ n, n = i % W := ⟨_, rfl⟩
      have e1 : (i : Int) % (W : Int) = (xi : Int) := by rw [hxi]; simp
      rw [← hxi] at mlt HMid HEnd
      have HB := Lib.hid hbr
      obtain ⟨l, hl⟩ : ∃ l, l = outP bs W i := ⟨_, rfl⟩
      rw [← hl] at hown hln HMid HEnd
      have Hl := Lib.hid hl
      clear hva hxi hl
      have kb := (w21.bl hbr).all3
      cases va
      · by_cases hne : xi = W - 1
        · go_wp2_with (at_builtin; refine wpList_append_one rfl (.tmp 29) (.tmp 30) 40 rfl 5 (.int .u8 0) 1 Tryz.underlying40 info_u8 rfl (w.heap.size + 1) u5 l.length (Lib.byteCells l) rfl (.int .u8 46) rfl rfl HB.out (by omega) (by have := HB.out.le; omega) hown (by omega) (by unfold maxLen; omega) ?_; intro v4 w4 hown4 hb4 _; obtain ⟨g, cap, rfl, hg, hgl⟩ := hown4.form (by omega); clear kb hown; have e2 : ((l.length + 1 : Nat) : Int) - 1 = (l.length : Int) := (by omega); have kc' := last_cell hown4 (Lib.byteCells_length l); have kf := hown4.frozenAt l.length; have kb4 := (w21.bl hb4).all3)
          have Cl := Lib.hid (Lib.byteCells_length l)
          rw [byteCells_push l 46 46 rfl] at hown4
          have kb5 := (w21.bl hb4).all3
          have H5 := Lib.hid hown4; have HB5 := Lib.hid hb4
          clear hown4
          have ht : ((xi : Int) == (W : Int) - 1) = true := by simp; omega
          have hout := HEnd.out (by omega)
          have Hout := Lib.hid hout; have Hne := Lib.hid hne; clear hout hne
          go_wp2_with fail
          refine wp_region_flow [(true, 0), (true, 1), (true, 2), (true, 3), (true, 4), (true, 5), (true, 6), (true, 7)] (fun _ => false) (by kernel_rfl) (by kernel_rfl) (by kernel_rfl) (by kernel_rfl) ?_
          iterate 1
            apply Flow.mv _ rfl
            · intro K' hK'
              simp only [Act.put, Act.eval, List.setIfInBounds_toArray, List.set_cons_zero, List.set_cons_succ, arr_getD, List.getD_cons_zero, List.getD_cons_succ]
              exact hK'
          iterate 1
            apply Flow.calm2 _ _ rfl rfl
            · intro w' hb' K' hK'
              obtain ⟨hc', hf'⟩ := hb'.rule
              go_simp
              try go_ints
              exact hK'
            · intro K' hK'
              simp only [Act.put, List.setIfInBounds_toArray, List.set_cons_zero, List.set_cons_succ]
              exact hK'
          iterate 1
            apply Flow.calm2 _ _ rfl rfl
            · intro w' hb' K' hK'
              obtain ⟨hc', hf'⟩ := hb'.rule
              go_simp
              try go_ints
              exact hK'
            · intro K' hK'
              simp only [Act.put, List.setIfInBounds_toArray, List.set_cons_zero, List.set_cons_succ]
              exact hK'
          iterate 1
            apply Flow.calm2 _ _ rfl rfl
            · intro w' hb' K' hK'
              obtain ⟨hc', hf'⟩ := hb'.rule
              go_simp
              try go_ints
              exact hK'
            · intro K' hK'
              simp only [Act.put, List.setIfInBounds_toArray, List.set_cons_zero, List.set_cons_succ]
              exact hK'
          iterate 1
            apply Flow.calm2 _ _ rfl rfl
            · intro w' hb' K' hK'
              obtain ⟨hc', hf'⟩ := hb'.rule
              go_simp
              try go_ints
              exact hK'
            · intro K' hK'
              simp only [Act.put, List.setIfInBounds_toArray, List.set_cons_zero, List.set_cons_succ]
              exact hK'
          iterate 1
            apply Flow.calm2 _ _ rfl rfl
            · intro w' hb' K' hK'
              obtain ⟨hc', hf'⟩ := hb'.rule
              go_simp
              try go_ints
              exact hK'
            · intro K' hK'
              simp only [Act.put, List.setIfInBounds_toArray, List.set_cons_zero, List.set_cons_succ]
              exact hK'
          iterate 2
            apply Flow.calm2 _ _ rfl rfl
            · intro w' hb' K' hK'
              obtain ⟨hc', hf'⟩ := hb'.rule
              go_simp
              try go_ints
              exact hK'
            · intro K' hK'
              simp only [Act.put, List.setIfInBounds_toArray, List.set_cons_zero, List.set_cons_succ]
              exact hK'
          refine Flow.done ?_
          go_wp2_with (at_builtin; refine wpList_append_one rfl (.tmp 46) (.tmp 47) 40 rfl 5 (.int .u8 0) 1 Tryz.underlying40 info_u8 rfl (w.heap.size + 1) (.slice (some ⟨g, 0, none⟩) (l.length + 1) cap) (l.length + 1) (Lib.byteCells (l ++ [46])) rfl (.int .u8 10) rfl rfl HB5.out.drew (by omega) (by have := HB5.out.le; simp; omega) (own_bl H5.out (Bl.refl _).drew) (by omega) (by unfold maxLen; omega) ?_; intro v6 w6 hown6 hb6 _)
          exact ⟨⟨i + 1, hlt, by go_num, hb6, by rw [Hout.out]; rw [byteCells_push (l ++ [46]) 10 10 rfl] at hown6; simpa [inkC] using hown6⟩, by simp [RowKit.intOf]; omega⟩
        · go_wp2_with (at_builtin; refine wpList_append_one rfl (.tmp 29) (.tmp 30) 40 rfl 5 (.int .u8 0) 1 Tryz.underlying40 info_u8 rfl (w.heap.size + 1) u5 l.length (Lib.byteCells l) rfl (.int .u8 46) rfl rfl HB.out (by omega) (by have := HB.out.le; omega) hown (by omega) (by unfold maxLen; omega) ?_; intro v4 w4 hown4 hb4 _; obtain ⟨g, cap, rfl, hg, hgl⟩ := hown4.form (by omega); clear kb hown; have e2 : ((l.length + 1 : Nat) : Int) - 1 = (l.length : Int) := (by omega); have kc' := last_cell hown4 (Lib.byteCells_length l); have kf := hown4.frozenAt l.length; have kb4 := (w21.bl hb4).all3)
          have Cl := Lib.hid (Lib.byteCells_length l)
          rw [byteCells_push l 46 46 rfl] at hown4
          have kb5 := (w21.bl hb4).all3
          have H5 := Lib.hid hown4; have HB5 := Lib.hid hb4
          clear hown4
          have ht : ((xi : Int) == (W : Int) - 1) = false := by simp; omega
          have hout := HMid.out (by omega)
          have Hout := Lib.hid hout; have Hne := Lib.hid hne; clear hout hne
          go_wp2_with fail
          refine wp_region_flow [(true, 0), (true, 1), (true, 2), (true, 3), (true, 4), (true, 5), (true, 6), (true, 7)] (fun _ => false) (by kernel_rfl) (by kernel_rfl) (by kernel_rfl) (by kernel_rfl) ?_
          iterate 1
            apply Flow.mv _ rfl
            · intro K' hK'
              simp only [Act.put, Act.eval, List.setIfInBounds_toArray, List.set_cons_zero, List.set_cons_succ, arr_getD, List.getD_cons_zero, List.getD_cons_succ]
              exact hK'
          iterate 1
            apply Flow.calm2 _ _ rfl rfl
            · intro w' hb' K' hK'
              obtain ⟨hc', hf'⟩ := hb'.rule
              go_simp
              try go_ints
              exact hK'
            · intro K' hK'
              simp only [Act.put, List.setIfInBounds_toArray, List.set_cons_zero, List.set_cons_succ]
              exact hK'
          iterate 1
            apply Flow.calm2 _ _ rfl rfl
            · intro w' hb' K' hK'
              obtain ⟨hc', hf'⟩ := hb'.rule
              go_simp
              try go_ints
              exact hK'
            · intro K' hK'
              simp only [Act.put, List.setIfInBounds_toArray, List.set_cons_zero, List.set_cons_succ]
              exact hK'
          iterate 1
            apply Flow.calm2 _ _ rfl rfl
            · intro w' hb' K' hK'
              obtain ⟨hc', hf'⟩ := hb'.rule
              go_simp
              try go_ints
              exact hK'
            · intro K' hK'
              simp only [Act.put, List.setIfInBounds_toArray, List.set_cons_zero, List.set_cons_succ]
              exact hK'
          iterate 1
            apply Flow.calm2 _ _ rfl rfl
            · intro w' hb' K' hK'
              obtain ⟨hc', hf'⟩ := hb'.rule
              go_simp
              try go_ints
              exact hK'
            · intro K' hK'
              simp only [Act.put, List.setIfInBounds_toArray, List.set_cons_zero, List.set_cons_succ]
              exact hK'
          iterate 1
            apply Flow.calm2 _ _ rfl rfl
            · intro w' hb' K' hK'
              obtain ⟨hc', hf'⟩ := hb'.rule
              go_simp
              try go_ints
              exact hK'
            · intro K' hK'
              simp only [Act.put, List.setIfInBounds_toArray, List.set_cons_zero, List.set_cons_succ]
              exact hK'
          iterate 2
            apply Flow.calm2 _ _ rfl rfl
            · intro w' hb' K' hK'
              obtain ⟨hc', hf'⟩ := hb'.rule
              go_simp
              try go_ints
              exact hK'
            · intro K' hK'
              simp only [Act.put, List.setIfInBounds_toArray, List.set_cons_zero, List.set_cons_succ]
              exact hK'
          refine Flow.done ?_
          go_wp2_with fail
          exact ⟨⟨i + 1, hlt, by go_num, HB5.out.drew, by rw [Hout.out]; have h := own_bl H5.out (Bl.refl w4).drew; simpa [inkC] using h⟩, by simp [RowKit.intOf]; omega⟩
      · by_cases hne : xi = W - 1
        · go_wp2_with (at_builtin; refine wpList_append_one rfl (.tmp 29) (.tmp 30) 40 rfl 5 (.int .u8 0) 1 Tryz.underlying40 info_u8 rfl (w.heap.size + 1) u5 l.length (Lib.byteCells l) rfl (.int .u8 46) rfl rfl HB.out (by omega) (by have := HB.out.le; omega) hown (by omega) (by unfold maxLen; omega) ?_; intro v4 w4 hown4 hb4 _; obtain ⟨g, cap, rfl, hg, hgl⟩ := hown4.form (by omega); clear kb hown; have e2 : ((l.length + 1 : Nat) : Int) - 1 = (l.length : Int) := (by omega); have kc' := last_cell hown4 (Lib.byteCells_length l); have kf := hown4.frozenAt l.length; have kb4 := (w21.bl hb4).all3)
          have Cl := Lib.hid (Lib.byteCells_length l)
          have hst := hown4.stored l.length (.int .u8 35)
          rw [set_last _ _ _ _ Cl.out] at hst
          have hbs : Bl w2 (w4.setCell ⟨g, l.length, none⟩ (.int .u8 35)) := hb4.setCell (by show w2.heap.size ≤ g; omega) _
          have hown5 := hst.1
          rw [byteCells_push l 35 35 rfl] at hown5
          have kb5 := (w21.bl hbs).all3
          have H5 := Lib.hid hown5; have HB5 := Lib.hid hbs
          clear hst hown5 hbs hown4
          have ht : ((xi : Int) == (W : Int) - 1) = true := by simp; omega
          have hout := HEnd.out (by omega)
          have Hout := Lib.hid hout; have Hne := Lib.hid hne; clear hout hne
          go_wp2_with fail
          generalize hw5 : w4.setCell ⟨g, l.length, none⟩ (.int .u8 35) = w5 at H5 HB5 kb5 ⊢
          clear hw5 kc' kf
          refine wp_region_flow [(true, 0), (true, 1), (true, 2), (true, 3), (true, 4), (true, 5), (true, 6), (true, 7)] (fun _ => false) (by kernel_rfl) (by kernel_rfl) (by kernel_rfl) (by kernel_rfl) ?_
          iterate 1
            apply Flow.mv _ rfl
            · intro K' hK'
              simp only [Act.put, Act.eval, List.setIfInBounds_toArray, List.set_cons_zero, List.set_cons_succ, arr_getD, List.getD_cons_zero, List.getD_cons_succ]
              exact hK'
          iterate 1
            apply Flow.calm2 _ _ rfl rfl
            · intro w' hb' K' hK'
              obtain ⟨hc', hf'⟩ := hb'.rule
              go_simp
              try go_ints
              exact hK'
            · intro K' hK'
              simp only [Act.put, List.setIfInBounds_toArray, List.set_cons_zero, List.set_cons_succ]
              exact hK'
          iterate 1
            apply Flow.calm2 _ _ rfl rfl
            · intro w' hb' K' hK'
              obtain ⟨hc', hf'⟩ := hb'.rule
              go_simp
              try go_ints
              exact hK'
            · intro K' hK'
              simp only [Act.put, List.setIfInBounds_toArray, List.set_cons_zero, List.set_cons_succ]
              exact hK'
          iterate 1
            apply Flow.calm2 _ _ rfl rfl
            · intro w' hb' K' hK'
              obtain ⟨hc', hf'⟩ := hb'.rule
              go_simp
              try go_ints
              exact hK'
            · intro K' hK'
              simp only [Act.put, List.setIfInBounds_toArray, List.set_cons_zero, List.set_cons_succ]
              exact hK'
          iterate 1
            apply Flow.calm2 _ _ rfl rfl
            · intro w' hb' K' hK'
              obtain ⟨hc', hf'⟩ := hb'.rule
              go_simp
              try go_ints
              exact hK'
            · intro K' hK'
              simp only [Act.put, List.setIfInBounds_toArray, List.set_cons_zero, List.set_cons_succ]
              exact hK'
          iterate 1
            apply Flow.calm2 _ _ rfl rfl
            · intro w' hb' K' hK'
              obtain ⟨hc', hf'⟩ := hb'.rule
              go_simp
              try go_ints
              exact hK'
            · intro K' hK'
              simp only [Act.put, List.setIfInBounds_toArray, List.set_cons_zero, List.set_cons_succ]
              exact hK'
          iterate 2
            apply Flow.calm2 _ _ rfl rfl
            · intro w' hb' K' hK'
              obtain ⟨hc', hf'⟩ := hb'.rule
              go_simp
              try go_ints
              exact hK'
            · intro K' hK'
              simp only [Act.put, List.setIfInBounds_toArray, List.set_cons_zero, List.set_cons_succ]
              exact hK'
          refine Flow.done ?_
          go_wp2_with (at_builtin; refine wpList_append_one rfl (.tmp 46) (.tmp 47) 40 rfl 5 (.int .u8 0) 1 Tryz.underlying40 info_u8 rfl (w.heap.size + 1) (.slice (some ⟨g, 0, none⟩) (l.length + 1) cap) (l.length + 1) (Lib.byteCells (l ++ [35])) rfl (.int .u8 10) rfl rfl HB5.out.drew (by omega) (by have := HB5.out.le; simp; omega) (own_bl H5.out (Bl.refl _).drew) (by omega) (by unfold maxLen; omega) ?_; intro v6 w6 hown6 hb6 _)
          exact ⟨⟨i + 1, hlt, by go_num, hb6, by rw [Hout.out]; rw [byteCells_push (l ++ [35]) 10 10 rfl] at hown6; simpa [inkC] using hown6⟩, by simp [RowKit.intOf]; omega⟩
        · go_wp2_with (at_builtin; refine wpList_append_one rfl (.tmp 29) (.tmp 30) 40 rfl 5 (.int .u8 0) 1 Tryz.underlying40 info_u8 rfl (w.heap.size + 1) u5 l.length (Lib.byteCells l) rfl (.int .u8 46) rfl rfl HB.out (by omega) (by have := HB.out.le; omega) hown (by omega) (by unfold maxLen; omega) ?_; intro v4 w4 hown4 hb4 _; obtain ⟨g, cap, rfl, hg, hgl⟩ := hown4.form (by omega); clear kb hown; have e2 : ((l.length + 1 : Nat) : Int) - 1 = (l.length : Int) := (by omega); have kc' := last_cell hown4 (Lib.byteCells_length l); have kf := hown4.frozenAt l.length; have kb4 := (w21.bl hb4).all3)
          have Cl := Lib.hid (Lib.byteCells_length l)
          have hst := hown4.stored l.length (.int .u8 35)
          rw [set_last _ _ _ _ Cl.out] at hst
          have hbs : Bl w2 (w4.setCell ⟨g, l.length, none⟩ (.int .u8 35)) := hb4.setCell (by show w2.heap.size ≤ g; omega) _
          have hown5 := hst.1
          rw [byteCells_push l 35 35 rfl] at hown5
          have kb5 := (w21.bl hbs).all3
          have H5 := Lib.hid hown5; have HB5 := Lib.hid hbs
          clear hst hown5 hbs hown4
          have ht : ((xi : Int) == (W : Int) - 1) = false := by simp; omega
          have hout := HMid.out (by omega)
          have Hout := Lib.hid hout; have Hne := Lib.hid hne; clear hout hne
          go_wp2_with fail
          generalize hw5 : w4.setCell ⟨g, l.length, none⟩ (.int .u8 35) = w5 at H5 HB5 kb5 ⊢
          clear hw5 kc' kf
          refine wp_region_flow [(true, 0), (true, 1), (true, 2), (true, 3), (true, 4), (true, 5), (true, 6), (true, 7)] (fun _ => false) (by kernel_rfl) (by kernel_rfl) (by kernel_rfl) (by kernel_rfl) ?_
          iterate 1
            apply Flow.mv _ rfl
            · intro K' hK'
              simp only [Act.put, Act.eval, List.setIfInBounds_toArray, List.set_cons_zero, List.set_cons_succ, arr_getD, List.getD_cons_zero, List.getD_cons_succ]
              exact hK'
          iterate 1
            apply Flow.calm2 _ _ rfl rfl
            · intro w' hb' K' hK'
              obtain ⟨hc', hf'⟩ := hb'.rule
              go_simp
              try go_ints
              exact hK'
            · intro K' hK'
              simp only [Act.put, List.setIfInBounds_toArray, List.set_cons_zero, List.set_cons_succ]
              exact hK'
          iterate 1
            apply Flow.calm2 _ _ rfl rfl
            · intro w' hb' K' hK'
              obtain ⟨hc', hf'⟩ := hb'.rule
              go_simp
              try go_ints
              exact hK'
            · intro K' hK'
              simp only [Act.put, List.setIfInBounds_toArray, List.set_cons_zero, List.set_cons_succ]
              exact hK'
          iterate 1
            apply Flow.calm2 _ _ rfl rfl
            · intro w' hb' K' hK'
              obtain ⟨hc', hf'⟩ := hb'.rule
              go_simp
              try go_ints
              exact hK'
            · intro K' hK'
              simp only [Act.put, List.setIfInBounds_toArray, List.set_cons_zero, List.set_cons_succ]
              exact hK'
          iterate 1
            apply Flow.calm2 _ _ rfl rfl
            · intro w' hb' K' hK'
              obtain ⟨hc', hf'⟩ := hb'.rule
              go_simp
              try go_ints
              exact hK'
            · intro K' hK'
              simp only [Act.put, List.setIfInBounds_toArray, List.set_cons_zero, List.set_cons_succ]
              exact hK'
          iterate 1
            apply Flow.calm2 _ _ rfl rfl
            · intro w' hb' K' hK'
              obtain ⟨hc', hf'⟩ := hb'.rule
              go_simp
              try go_ints
              exact hK'
            · intro K' hK'
              simp only [Act.put, List.setIfInBounds_toArray, List.set_cons_zero, List.set_cons_succ]
              exact hK'
          iterate 2
            apply Flow.calm2 _ _ rfl rfl
            · intro w' hb' K' hK'
              obtain ⟨hc', hf'⟩ := hb'.rule
              go_simp
              try go_ints
              exact hK'
            · intro K' hK'
              simp only [Act.put, List.setIfInBounds_toArray, List.set_cons_zero, List.set_cons_succ]
              exact hK'
          refine Flow.done ?_
          go_wp2_with fail
          exact ⟨⟨i + 1, hlt, by go_num, HB5.out.drew, by rw [Hout.out]; have h := own_bl H5.out (Bl.refl w5).drew; simpa [inkC] using h⟩, by simp [RowKit.intOf]; omega⟩
    · obtain rfl : i = W * H := by omega
      rw [outP_all bs hW.1 H] at hown hln
      have hpos : 0 < (prL bs W H).length := by
        rw [prL_len]
        refine Nat.mul_pos ?_ (by omega)
        rcases Nat.eq_zero_or_pos H with h | h
        · exact absurd h (HH0.out)
        · exact h
      obtain ⟨g, cap, rfl, hg, hgl⟩ := hown.form hpos
      have hconv : (convert 40 9 (.slice (some ⟨g, 0, none⟩) (prL bs W H).length cap)).run Tryz.prog wr = .ok (.string ⟨(prL bs W H).toArray⟩) wr := by
        refine run_convert_bytes_back wr 40 9 5 ⟨g, 0, none⟩ cap (prL bs W H) Tryz.underlying40 Tryz.underlying5 Tryz.underlying9 (fun j hj => ?_)
        refine hown.cells (g := g) rfl j _ ?_
        unfold Lib.byteCells
        rw [List.getElem?_map, List.getElem?_eq_getElem hj]
        rfl
      have HB := Lib.hid hbr
      clear hown hln hbr hpos
      go_wp2_with fail
      refine bodyPost_ret (v := .tuple #[.string ⟨(prL bs W H).toArray⟩, .int .i64 0]) (by simp [results, Tryz.results70, go_sem]) rfl ⟨rfl, w2b.trans HB.out⟩

theorem prL_string (bs : List Bool) (W H : Nat) : (⟨(prL bs W H).toArray⟩ : ByteArray).data.toList = prL bs W H := rfl
set_option maxRecDepth 100000 in
set_option maxHeartbeats 4000000 in
theorem print_bad (W H : Int) (A : Option Addr) (an ac : Nat) (w : World) (he : printErr W H an ≠ 0) :
    Calls Tryz.prog 70 #[.agg #[.int .i64 W, .int .i64 H, .slice A an ac]] w fun e w' => e = .returned (.tuple #[.string ⟨#[]⟩, .int .i64 (printErr W H an)]) ∧ Bl w w' := by
  let w2 := (w).alloc (.cells #[.int .i64 W, .int .i64 H, .slice A an ac] 28)
  have w2b : Bl w w2 := (Bl.refl w).alloc _
  have w21 : Blk w2 (w.heap.size) 28 #[.int .i64 W, .int .i64 H, .slice A an ac] := by
    have h0 := Blk.new (w) 28 #[.int .i64 W, .int .i64 H, .slice A an ac]
    exact h0
  have k1 := w21.all3
  by_cases hp : pageErr W H an = 0
  · have hq : (pageErr W H an != 0) = false := by simp [hp]
    have e : printErr W H an = 4 := by
      unfold printErr at he ⊢
      simp only [firstNZ, if_pos hp] at he ⊢
      cases h : (decide (200 < W) || decide (200 < H))
      · rw [h] at he; simp [whenI] at he
      · rfl
    rw [e]
    have hb : 200 < W ∨ (¬ 200 < W ∧ 200 < H) := by
      by_cases h1 : 200 < W
      · exact Or.inl h1
      · refine Or.inr ⟨h1, ?_⟩
        by_cases h2 : 200 < H
        · exact h2
        · exfalso
          apply he
          unfold printErr
          simp only [firstNZ, if_pos hp, decide_eq_false h1, decide_eq_false h2]
          rfl
    clear he e hp
    rcases hb with h1 | ⟨h1, h2⟩
    all_goals
      go_enter Tryz.func70, Tryz.ntmps70
      go_wp2_with fail
      refine (checkBits_any _ _ _ _ _ _).mono ?_
      rintro e w3 ⟨rfl, hb3⟩
      have k3 := (w21.bl hb3).all3
      go_wp2_with fail
      refine bodyPost_ret (v := .tuple #[.string ⟨#[]⟩, .int .i64 4]) (by simp [results, Tryz.results70, go_sem]) rfl ⟨rfl, w2b.trans hb3⟩
  · have hq : (pageErr W H an != 0) = true := by simp [hp]
    have e : printErr W H an = pageErr W H an := by unfold printErr; simp only [firstNZ, if_neg hp]
    rw [e]
    clear he e hp
    go_enter Tryz.func70, Tryz.ntmps70
    go_wp2_with fail
    refine (checkBits_any _ _ _ _ _ _).mono ?_
    rintro e w3 ⟨rfl, hb3⟩
    go_wp2_with fail
    refine bodyPost_ret (v := .tuple #[.string ⟨#[]⟩, .int .i64 (pageErr W H an)]) (by simp [results, Tryz.results70, go_sem]) rfl ⟨rfl, w2b.trans hb3⟩

end Go.Proofs.YtjelhdpcaileiaaGreatDoor
