/- profile. -/
import Derived.Test.YtecfjdladcmhjaaDoorSkew2
namespace Go.Proofs.YtecfjdladcmhjaaDoor
open Go.RowKit

theorem take_count (p : Nat → Bool) (idx : List Nat) (j i : Nat) (h : idx[j]? = some i) : (idx.take (j + 1)).countP p = (idx.take j).countP p + b1 (p i) := by
  rw [List.take_add_one, h]
  simp only [Option.toList_some, List.countP_append]
  cases hp : p i <;> simp [b1, hp]
theorem take_count_le (p : Nat → Bool) (idx : List Nat) (j : Nat) : (idx.take j).countP p ≤ idx.length :=
  Nat.le_trans List.countP_le_length (by rw [List.length_take]; omega)

set_option maxRecDepth 100000 in
set_option maxHeartbeats 4000000 in
theorem profile_any (W H : Nat) (A : Option Addr) (an ac : Nat) (n : Int) (idx : List Nat) (P : Option Addr) (pc : Nat) (w : World) (hP : PtReads w P W idx) (hidx : ∀ i ∈ idx, i < W * H) (hl : idx.length ≤ 1048576)
    (hW : 1 ≤ W ∧ W ≤ 4000) (hH : 1 ≤ H ∧ H ≤ 4000) (hn : -256 ≤ n ∧ n ≤ 256) :
    Calls Tryd.prog 177 #[.agg #[.int .i64 W, .int .i64 H, .slice A an ac], .slice P idx.length pc, .int .i64 n] w fun e w' =>
      ∃ g, e = .returned (.slice (some ⟨g, 0, none⟩) (2 * H) (2 * H)) ∧ w.heap.size ≤ g ∧ Blk w' g 3 (tabI (2 * H) fun k => ((idx.countP (profK W H n k) : Nat) : Int)) ∧ Bl w w' := by
  let w2 := (w).alloc (.cells #[.int .i64 W, .int .i64 H, .slice A an ac] 24)
  have w2b : Bl w w2 := (Bl.refl w).alloc _
  have w21 : Blk w2 (w.heap.size) 24 #[.int .i64 W, .int .i64 H, .slice A an ac] := by
    have h0 := Blk.new (w) 24 #[.int .i64 W, .int .i64 H, .slice A an ac]
    exact h0
  have k1 := w21.all3
  have lw2 : w2.heap.size = w.heap.size + 1 := by simp [w2]
  have hmk := run_make_row' (P := Tryd.prog) 83 3 (.int .i64 0) 8 Tryd.underlying83 info_int rfl .i64 .i64 (2 * H) (by omega) (by omega)
  have eH : 2 * (H : Int) = ((2 * H : Nat) : Int) := by simp
  rw [tabI_made, ← eH] at hmk
  have EH := Lib.hid eH
  have hP2 := hP.bl w2b
  have HP := Lib.hid hP2
  have Hidx := Lib.hid hidx
  clear eH hP hP2 hidx
  go_enter Tryd.func177, Tryd.ntmps177
  go_wp2_with fail
  refine (leans_any W n _ hW.2 hW.1 hn).mono ?_
  rintro e w4 ⟨gs, rfl, hgs, hbs, hb4⟩
  have hbo := (Blk.new w2 3 (tabI (2 * H) fun _ => 0)).bl hb4
  have hb24 : Bl w2 w4 := ((Bl.refl _).alloc _).trans hb4
  have hgs' : w.heap.size + 2 ≤ gs := by have h := hgs; simp only [World.size_alloc] at h; omega
  clear hgs
  clear hb4 hmk
  have start : Blk w4 w2.heap.size 3 (tabI (2 * H) fun k => (((idx.take 0).countP (profK W H n k) : Nat) : Int)) := by simpa using hbo
  have Start := Lib.hid start
  clear start hbo
  go_wp2_with fail
  go_loopw [22] (fun u wr => ∃ j : Nat, j ≤ idx.length ∧ u = .int .i64 j ∧ Bl w2 wr ∧ Blk wr w2.heap.size 3 (tabI (2 * H) fun k => (((idx.take j).countP (profK W H n k) : Nat) : Int)) ∧ Blk wr gs 3 (tabI W (leanI W n))) (fun u _ => idx.length - (intOf u).toNat)
  case atStart => exact ⟨0, Nat.zero_le _, rfl, hb24, Start.out, hbs⟩
  case round =>
    clear k1 hbs hb24
    obtain ⟨j, hj, rfl, hbr, hbo, hbs⟩ := hrel
    by_cases hlt : j < idx.length
    · obtain ⟨pg, eP, hc⟩ := HP.out.bl hbr (by omega)
      subst eP
      obtain ⟨i, hi⟩ : ∃ i, idx[j]? = some i := ⟨_, List.getElem?_eq_getElem hlt⟩
      obtain ⟨hc1, hc2⟩ := hc j i hi
      have hil := Hidx.out i (List.mem_of_getElem? hi)
      have mlt : i % W < W := Nat.mod_lt _ (by omega)
      have dlt : i / W < H := Nat.div_lt_of_lt_mul hil
      have hcl := hbs.tabAt mlt
      have hbd := leanI_bd hW.2 hn mlt
      have hat : ∀ k, profK W H n k i = decide (((H / 2 : Nat) : Int) + ((i / W : Nat) : Int) + leanI W n (i % W) = (k : Int)) := fun _ => rfl
      have htk := fun k => take_count (profK W H n k) idx j i hi
      have htl := fun k => take_count_le (profK W H n k) idx j
      obtain ⟨xi, hxi⟩ : ∃ n, n = i % W := ⟨_, rfl⟩
      obtain ⟨yi, hyi⟩ : ∃ n, n = i / W := ⟨_, rfl⟩
      rw [← hxi] at mlt hcl hbd hc1
      rw [← hyi] at dlt hc2
      rw [← hxi, ← hyi] at hat
      obtain ⟨la, hla⟩ : ∃ l, l = leanI W n xi := ⟨_, rfl⟩
      rw [← hla] at hcl hbd hat
      obtain ⟨hh, hhh⟩ : ∃ n, n = H / 2 := ⟨_, rfl⟩
      rw [← hhh] at hat
      have e5 : (H : Int) / 2 = (hh : Int) := by omega
      have e6 := hhh.symm
      obtain ⟨at_, hat_⟩ : ∃ n : Int, (hh : Int) + (yi : Int) + la = n := ⟨_, rfl⟩
      rw [hat_] at hat
      have bat : -5000 ≤ at_ ∧ at_ ≤ 15000 := by omega
      have bhh : hh ≤ 4000 := by omega
      have Hat := Lib.hid hat; have Htk := Lib.hid htk; have Htl := Lib.hid htl
      clear hat htk htl hxi hyi hla hhh hil hi hc
      go_upto_region 6 with fail
      have hb5 : Bl wr (wr.alloc (.cells #[.int .i64 xi, .int .i64 yi] 236)) := (Bl.refl _).alloc _
      have b5 := Blk.new wr 236 #[.int .i64 xi, .int .i64 yi]
      generalize hw5 : wr.alloc (.cells #[.int .i64 xi, .int .i64 yi] 236) = w5 at hb5 b5 ⊢
      have k5 := b5.all2
      have k1 := (w21.bl (hbr.trans hb5)).all3
      have hcl5 := hb5.at hcl
      have hf5 := (hbs.bl hb5).frozen
      have hbo5 := hbo.bl hb5
      have hbs5 := hbs.bl hb5
      have hbr5 := hbr.trans hb5
      rw [lw2] at hbo5
      clear hw5 hcl hc1 hc2 hbo hbs hbr hb5
      rcases (show at_ < 0 ∨ (¬ at_ < 0 ∧ 2 * (H : Int) ≤ at_) ∨ (0 ≤ at_ ∧ at_ < 2 * (H : Int)) by omega) with hr | ⟨hr, hr2⟩ | ⟨hr, hr2⟩
      · have hstep : tabI (2 * H) (fun k => (((idx.take j).countP (profK W H n k) : Nat) : Int)) = tabI (2 * H) (fun k => (((idx.take (j + 1)).countP (profK W H n k) : Nat) : Int)) :=
          tabI_congr fun k hk => by
            have hx : ¬ (at_ = (k : Int)) := by omega
            rw [Htk.out k, Hat.out k]; simp [b1, hx]
        rw [hstep] at hbo5
        clear hstep
        refine wp_region_flow [(true, 0), (true, 1), (true, 2), (true, 3), (true, 4), (true, 5), (true, 6), (true, 7), (true, 8), (true, 9), (true, 10), (true, 11), (true, 12)] (fun _ => false) (by kernel_rfl) (by kernel_rfl) (by kernel_rfl) (by kernel_rfl) ?_
        iterate 1
          apply Flow.calm2 _ _ rfl rfl
          · intro w' hb' K' hK'
            obtain ⟨hc', hf'⟩ := hb'.rule
            go_simp
            try go_ints
            exact hK'
          · intro K' hK'
            simp only [Act.put, List.setIfInBounds_toArray, List.set_cons_zero, List.set_cons_succ]
            exact hK'
        iterate 1
          apply Flow.calm2 _ _ rfl rfl
          · intro w' hb' K' hK'
            obtain ⟨hc', hf'⟩ := hb'.rule
            go_simp
            try go_ints
            exact hK'
          · intro K' hK'
            simp only [Act.put, List.setIfInBounds_toArray, List.set_cons_zero, List.set_cons_succ]
            exact hK'
        iterate 1
          apply Flow.calm2 _ _ rfl rfl
          · intro w' hb' K' hK'
            obtain ⟨hc', hf'⟩ := hb'.rule
            go_simp
            try go_ints
            exact hK'
          · intro K' hK'
            simp only [Act.put, List.setIfInBounds_toArray, List.set_cons_zero, List.set_cons_succ]
            exact hK'
        iterate 1
          apply Flow.calm2 _ _ rfl rfl
          · intro w' hb' K' hK'
            obtain ⟨hc', hf'⟩ := hb'.rule
            go_simp
            try go_ints
            exact hK'
          · intro K' hK'
            simp only [Act.put, List.setIfInBounds_toArray, List.set_cons_zero, List.set_cons_succ]
            exact hK'
        iterate 1
          apply Flow.calm2 _ _ rfl rfl
          · intro w' hb' K' hK'
            obtain ⟨hc', hf'⟩ := hb'.rule
            go_simp
            try go_ints
            exact hK'
          · intro K' hK'
            simp only [Act.put, List.setIfInBounds_toArray, List.set_cons_zero, List.set_cons_succ]
            exact hK'
        iterate 1
          apply Flow.calm2 _ _ rfl rfl
          · intro w' hb' K' hK'
            obtain ⟨hc', hf'⟩ := hb'.rule
            go_simp
            try go_ints
            exact hK'
          · intro K' hK'
            simp only [Act.put, List.setIfInBounds_toArray, List.set_cons_zero, List.set_cons_succ]
            exact hK'
        iterate 1
          apply Flow.mv _ rfl
          · intro K' hK'
            simp only [Act.put, Act.eval, List.setIfInBounds_toArray, List.set_cons_zero, List.set_cons_succ, arr_getD, List.getD_cons_zero, List.getD_cons_succ]
            exact hK'
        iterate 1
          apply Flow.calm2 _ _ rfl rfl
          · intro w' hb' K' hK'
            obtain ⟨hc', hf'⟩ := hb'.rule
            go_simp
            try go_ints
            exact hK'
          · intro K' hK'
            simp only [Act.put, List.setIfInBounds_toArray, List.set_cons_zero, List.set_cons_succ]
            exact hK'
        iterate 1
          apply Flow.calm2 _ _ rfl rfl
          · intro w' hb' K' hK'
            obtain ⟨hc', hf'⟩ := hb'.rule
            go_simp
            try go_ints
            exact hK'
          · intro K' hK'
            simp only [Act.put, List.setIfInBounds_toArray, List.set_cons_zero, List.set_cons_succ]
            exact hK'
        iterate 1
          apply Flow.calm2 _ _ rfl rfl
          · intro w' hb' K' hK'
            obtain ⟨hc', hf'⟩ := hb'.rule
            go_simp
            try go_ints
            exact hK'
          · intro K' hK'
            simp only [Act.put, List.setIfInBounds_toArray, List.set_cons_zero, List.set_cons_succ]
            exact hK'
        iterate 1
          apply Flow.calm2 _ _ rfl rfl
          · intro w' hb' K' hK'
            obtain ⟨hc', hf'⟩ := hb'.rule
            go_simp
            try go_ints
            exact hK'
          · intro K' hK'
            simp only [Act.put, List.setIfInBounds_toArray, List.set_cons_zero, List.set_cons_succ]
            exact hK'
        iterate 1
          apply Flow.calm2 _ _ rfl rfl
          · intro w' hb' K' hK'
            obtain ⟨hc', hf'⟩ := hb'.rule
            go_simp
            try go_ints
            exact hK'
          · intro K' hK'
            simp only [Act.put, List.setIfInBounds_toArray, List.set_cons_zero, List.set_cons_succ]
            exact hK'
        iterate 1
          apply Flow.asg _ rfl
          · intro K' hK'
            simp only [Act.put, Act.eval, List.setIfInBounds_toArray, List.set_cons_zero, List.set_cons_succ, arr_getD, List.getD_cons_zero, List.getD_cons_succ]
            exact hK'
        refine Flow.done ?_
        go_wp2_with fail
        exact ⟨⟨j + 1, hlt, by go_num, hbr5.drew, by rw [lw2]; exact hbo5.drew, hbs5.drew⟩, by simp [intOf]; omega⟩
      · have hstep : tabI (2 * H) (fun k => (((idx.take j).countP (profK W H n k) : Nat) : Int)) = tabI (2 * H) (fun k => (((idx.take (j + 1)).countP (profK W H n k) : Nat) : Int)) :=
          tabI_congr fun k hk => by
            have hx : ¬ (at_ = (k : Int)) := by omega
            rw [Htk.out k, Hat.out k]; simp [b1, hx]
        rw [hstep] at hbo5
        clear hstep
        refine wp_region_flow [(true, 0), (true, 1), (true, 2), (true, 3), (true, 4), (true, 5), (true, 6), (true, 7), (true, 8), (true, 9), (true, 10), (true, 11), (true, 12)] (fun _ => false) (by kernel_rfl) (by kernel_rfl) (by kernel_rfl) (by kernel_rfl) ?_
        iterate 1
          apply Flow.calm2 _ _ rfl rfl
          · intro w' hb' K' hK'
            obtain ⟨hc', hf'⟩ := hb'.rule
            go_simp
            try go_ints
            exact hK'
          · intro K' hK'
            simp only [Act.put, List.setIfInBounds_toArray, List.set_cons_zero, List.set_cons_succ]
            exact hK'
        iterate 1
          apply Flow.calm2 _ _ rfl rfl
          · intro w' hb' K' hK'
            obtain ⟨hc', hf'⟩ := hb'.rule
            go_simp
            try go_ints
            exact hK'
          · intro K' hK'
            simp only [Act.put, List.setIfInBounds_toArray, List.set_cons_zero, List.set_cons_succ]
            exact hK'
        iterate 1
          apply Flow.calm2 _ _ rfl rfl
          · intro w' hb' K' hK'
            obtain ⟨hc', hf'⟩ := hb'.rule
            go_simp
            try go_ints
            exact hK'
          · intro K' hK'
            simp only [Act.put, List.setIfInBounds_toArray, List.set_cons_zero, List.set_cons_succ]
            exact hK'
        iterate 1
          apply Flow.calm2 _ _ rfl rfl
          · intro w' hb' K' hK'
            obtain ⟨hc', hf'⟩ := hb'.rule
            go_simp
            try go_ints
            exact hK'
          · intro K' hK'
            simp only [Act.put, List.setIfInBounds_toArray, List.set_cons_zero, List.set_cons_succ]
            exact hK'
        iterate 1
          apply Flow.calm2 _ _ rfl rfl
          · intro w' hb' K' hK'
            obtain ⟨hc', hf'⟩ := hb'.rule
            go_simp
            try go_ints
            exact hK'
          · intro K' hK'
            simp only [Act.put, List.setIfInBounds_toArray, List.set_cons_zero, List.set_cons_succ]
            exact hK'
        iterate 1
          apply Flow.calm2 _ _ rfl rfl
          · intro w' hb' K' hK'
            obtain ⟨hc', hf'⟩ := hb'.rule
            go_simp
            try go_ints
            exact hK'
          · intro K' hK'
            simp only [Act.put, List.setIfInBounds_toArray, List.set_cons_zero, List.set_cons_succ]
            exact hK'
        iterate 1
          apply Flow.mv _ rfl
          · intro K' hK'
            simp only [Act.put, Act.eval, List.setIfInBounds_toArray, List.set_cons_zero, List.set_cons_succ, arr_getD, List.getD_cons_zero, List.getD_cons_succ]
            exact hK'
        iterate 1
          apply Flow.calm2 _ _ rfl rfl
          · intro w' hb' K' hK'
            obtain ⟨hc', hf'⟩ := hb'.rule
            go_simp
            try go_ints
            exact hK'
          · intro K' hK'
            simp only [Act.put, List.setIfInBounds_toArray, List.set_cons_zero, List.set_cons_succ]
            exact hK'
        iterate 1
          apply Flow.calm2 _ _ rfl rfl
          · intro w' hb' K' hK'
            obtain ⟨hc', hf'⟩ := hb'.rule
            go_simp
            try go_ints
            exact hK'
          · intro K' hK'
            simp only [Act.put, List.setIfInBounds_toArray, List.set_cons_zero, List.set_cons_succ]
            exact hK'
        iterate 1
          apply Flow.calm2 _ _ rfl rfl
          · intro w' hb' K' hK'
            obtain ⟨hc', hf'⟩ := hb'.rule
            go_simp
            try go_ints
            exact hK'
          · intro K' hK'
            simp only [Act.put, List.setIfInBounds_toArray, List.set_cons_zero, List.set_cons_succ]
            exact hK'
        iterate 1
          apply Flow.calm2 _ _ rfl rfl
          · intro w' hb' K' hK'
            obtain ⟨hc', hf'⟩ := hb'.rule
            go_simp
            try go_ints
            exact hK'
          · intro K' hK'
            simp only [Act.put, List.setIfInBounds_toArray, List.set_cons_zero, List.set_cons_succ]
            exact hK'
        iterate 1
          apply Flow.calm2 _ _ rfl rfl
          · intro w' hb' K' hK'
            obtain ⟨hc', hf'⟩ := hb'.rule
            go_simp
            try go_ints
            exact hK'
          · intro K' hK'
            simp only [Act.put, List.setIfInBounds_toArray, List.set_cons_zero, List.set_cons_succ]
            exact hK'
        iterate 1
          apply Flow.asg _ rfl
          · intro K' hK'
            simp only [Act.put, Act.eval, List.setIfInBounds_toArray, List.set_cons_zero, List.set_cons_succ, arr_getD, List.getD_cons_zero, List.getD_cons_succ]
            exact hK'
        refine Flow.done ?_
        go_wp2_with fail
        exact ⟨⟨j + 1, hlt, by go_num, hbr5.drew, by rw [lw2]; exact hbo5.drew, hbs5.drew⟩, by simp [intOf]; omega⟩
      · obtain ⟨a, rfl⟩ := Int.eq_ofNat_of_zero_le hr
        have ha : a < 2 * H := by omega
        have kc := hbo5.tabAt ha
        have kf := hbo5.frozen a
        have hset := hbo5.tabSet (f' := fun k => (((idx.take (j + 1)).countP (profK W H n k) : Nat) : Int)) a ((((idx.take j).countP (profK W H n a) : Nat) : Int) + 1) (fun k hk => by
          rw [Htk.out k, Hat.out k]
          by_cases e : k = a
          · subst e; simp [b1]
          · have : ¬ ((a : Int) = (k : Int)) := by omega
            simp [e, this, b1])
        have hcb := Htl.out a
        obtain ⟨c, hc⟩ : ∃ c, c = (idx.take j).countP (profK W H n a) := ⟨_, rfl⟩
        rw [← hc] at kc hset hcb
        have Hset := Lib.hid hset; have Hc := Lib.hid hc
        clear hset hc
        refine wp_region_flow [(true, 0), (true, 1), (true, 2), (true, 3), (true, 4), (true, 5), (true, 6), (true, 7), (true, 8), (true, 9), (true, 10), (true, 11), (true, 12)] (fun _ => false) (by kernel_rfl) (by kernel_rfl) (by kernel_rfl) (by kernel_rfl) ?_
        iterate 1
          apply Flow.calm2 _ _ rfl rfl
          · intro w' hb' K' hK'
            obtain ⟨hc', hf'⟩ := hb'.rule
            go_simp
            try go_ints
            exact hK'
          · intro K' hK'
            simp only [Act.put, List.setIfInBounds_toArray, List.set_cons_zero, List.set_cons_succ]
            exact hK'
        iterate 1
          apply Flow.calm2 _ _ rfl rfl
          · intro w' hb' K' hK'
            obtain ⟨hc', hf'⟩ := hb'.rule
            go_simp
            try go_ints
            exact hK'
          · intro K' hK'
            simp only [Act.put, List.setIfInBounds_toArray, List.set_cons_zero, List.set_cons_succ]
            exact hK'
        iterate 1
          apply Flow.calm2 _ _ rfl rfl
          · intro w' hb' K' hK'
            obtain ⟨hc', hf'⟩ := hb'.rule
            go_simp
            try go_ints
            exact hK'
          · intro K' hK'
            simp only [Act.put, List.setIfInBounds_toArray, List.set_cons_zero, List.set_cons_succ]
            exact hK'
        iterate 1
          apply Flow.calm2 _ _ rfl rfl
          · intro w' hb' K' hK'
            obtain ⟨hc', hf'⟩ := hb'.rule
            go_simp
            try go_ints
            exact hK'
          · intro K' hK'
            simp only [Act.put, List.setIfInBounds_toArray, List.set_cons_zero, List.set_cons_succ]
            exact hK'
        iterate 1
          apply Flow.calm2 _ _ rfl rfl
          · intro w' hb' K' hK'
            obtain ⟨hc', hf'⟩ := hb'.rule
            go_simp
            try go_ints
            exact hK'
          · intro K' hK'
            simp only [Act.put, List.setIfInBounds_toArray, List.set_cons_zero, List.set_cons_succ]
            exact hK'
        iterate 1
          apply Flow.calm2 _ _ rfl rfl
          · intro w' hb' K' hK'
            obtain ⟨hc', hf'⟩ := hb'.rule
            go_simp
            try go_ints
            exact hK'
          · intro K' hK'
            simp only [Act.put, List.setIfInBounds_toArray, List.set_cons_zero, List.set_cons_succ]
            exact hK'
        iterate 1
          apply Flow.mv _ rfl
          · intro K' hK'
            simp only [Act.put, Act.eval, List.setIfInBounds_toArray, List.set_cons_zero, List.set_cons_succ, arr_getD, List.getD_cons_zero, List.getD_cons_succ]
            exact hK'
        iterate 1
          apply Flow.calm2 _ _ rfl rfl
          · intro w' hb' K' hK'
            obtain ⟨hc', hf'⟩ := hb'.rule
            go_simp
            try go_ints
            exact hK'
          · intro K' hK'
            simp only [Act.put, List.setIfInBounds_toArray, List.set_cons_zero, List.set_cons_succ]
            exact hK'
        iterate 1
          apply Flow.calm2 _ _ rfl rfl
          · intro w' hb' K' hK'
            obtain ⟨hc', hf'⟩ := hb'.rule
            go_simp
            try go_ints
            exact hK'
          · intro K' hK'
            simp only [Act.put, List.setIfInBounds_toArray, List.set_cons_zero, List.set_cons_succ]
            exact hK'
        iterate 1
          apply Flow.calm2 _ _ rfl rfl
          · intro w' hb' K' hK'
            obtain ⟨hc', hf'⟩ := hb'.rule
            go_simp
            try go_ints
            exact hK'
          · intro K' hK'
            simp only [Act.put, List.setIfInBounds_toArray, List.set_cons_zero, List.set_cons_succ]
            exact hK'
        iterate 1
          apply Flow.calm2 _ _ rfl rfl
          · intro w' hb' K' hK'
            obtain ⟨hc', hf'⟩ := hb'.rule
            go_simp
            try go_ints
            exact hK'
          · intro K' hK'
            simp only [Act.put, List.setIfInBounds_toArray, List.set_cons_zero, List.set_cons_succ]
            exact hK'
        iterate 1
          apply Flow.calm2 _ _ rfl rfl
          · intro w' hb' K' hK'
            obtain ⟨hc', hf'⟩ := hb'.rule
            go_simp
            try go_ints
            exact hK'
          · intro K' hK'
            simp only [Act.put, List.setIfInBounds_toArray, List.set_cons_zero, List.set_cons_succ]
            exact hK'
        iterate 1
          apply Flow.asg _ rfl
          · intro K' hK'
            simp only [Act.put, Act.eval, List.setIfInBounds_toArray, List.set_cons_zero, List.set_cons_succ, arr_getD, List.getD_cons_zero, List.getD_cons_succ]
            exact hK'
        refine Flow.done ?_
        go_wp2_with fail
        exact ⟨⟨j + 1, hlt, by go_num, (hbr5.setCell (by simp; omega) _).drew, by rw [lw2]; exact Hset.out.drew, (hbs5.far (by simp; omega) _).drew⟩, by simp [intOf]; omega⟩
    · obtain rfl : j = idx.length := by omega
      rw [List.take_length] at hbo
      go_wp2_with fail
      go_ret
      rw [lw2] at hbo
      exact ⟨_, rfl, by omega, hbo, w2b.trans hbr⟩

end Go.Proofs.YtecfjdladcmhjaaDoor
