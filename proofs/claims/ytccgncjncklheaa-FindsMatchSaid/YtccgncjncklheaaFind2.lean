/- The scores: Find$1, FindSlant$1, FindOf$1, FindSlantOf$1. -/
import Derived.Test.YtccgncjncklheaaFindLaw
import Derived.Test.YtccgncjncklheaaCount2
import Derived.Test.YtccgncjncklheaaInkOf
namespace Go.Proofs.Ytccgncjncklheaa
open Go.RowKit

def slantS (bs : List Bool) (W H : Nat) (n : Int) : Int := sqN (colI (grid W H (slantF bs W H n)) W H) W

set_option maxRecDepth 100000 in
set_option maxHeartbeats 1000000 in
theorem find1_any (p W H : Nat) (A : Option Addr) (an ac : Nat) (bs : List Bool) (P : Option Addr) (c : Nat) (n : Int) (w : World) (hp : Blk w p 39 #[.int .i64 W, .int .i64 H, .slice A an ac]) (hP : PtReads w P W (spotL bs (W * H))) (hW : 1 ≤ W ∧ W ≤ 4000) (hH : 1 ≤ H ∧ H ≤ 4000) (hbd : W * H ≤ 1048576) (hn : -256 ≤ n ∧ n ≤ 256) :
    Calls Try.prog 139 #[.slice P (spotL bs (W * H)).length c, .int .i64 n, .pointer (some ⟨p, 0, none⟩)] w fun e w' => e = .returned (.int .i64 (scoreI bs W H n)) ∧ Bl w w' := by
  have kp := hp.all3
  have hsl := spotL_lt bs (W * H)
  have hsn := spotL_len bs (W * H)
  have Hsl := Lib.hid hsl; have HP := Lib.hid hP
  have hsn2 : (spotL bs (W * H)).length ≤ 1048576 := by omega
  clear hsl hP hsn
  go_enter Try.func139, Try.ntmps139
  go_wp2_with fail
  refine (profile_any W H A an ac n (spotL bs (W * H)) P c w HP.out Hsl.out hsn2 hW hH hn).mono ?_
  rintro e w1 ⟨g, rfl, hg, hbk, hb1⟩
  have e : tabI (2 * H) (fun k => (((spotL bs (W * H)).countP (profK W H n k) : Nat) : Int)) = tabI (2 * H) (profI bs W H n) := tabI_congr fun k _ => prof_count bs W H n k
  rw [e] at hbk
  have Hr := Lib.hid hbk.tabReads
  clear e hbk
  go_wp2_with fail
  refine (squares_any (some ⟨g, 0, none⟩) (2 * H) (2 * H) (profI bs W H n) w1 Hr.out (by omega) (profI_bd hbd)).mono ?_
  rintro e w2 ⟨rfl, rfl⟩
  go_wp2_with fail
  go_ret
  exact ⟨rfl, hb1⟩

set_option maxRecDepth 100000 in
set_option maxHeartbeats 4000000 in
theorem findSlant1_any (p W H : Nat) (A : Option Addr) (an ac : Nat) (bs : List Bool) (P : Option Addr) (pc : Nat) (n : Int) (w : World) (hp : Blk w p 39 #[.int .i64 W, .int .i64 H, .slice A an ac]) (hP : PtReads w P W (spotL bs (W * H))) (hW : 1 ≤ W ∧ W ≤ 4000) (hH : 1 ≤ H ∧ H ≤ 4000) (hbd : W * H ≤ 1048576) (hn : -256 ≤ n ∧ n ≤ 256) :
    Calls Try.prog 140 #[.slice P (spotL bs (W * H)).length pc, .int .i64 n, .pointer (some ⟨p, 0, none⟩)] w fun e w' => e = .returned (.int .i64 (slantS bs W H n)) ∧ Bl w w' := by
  obtain ⟨idx, hidxe⟩ : ∃ l, l = spotL bs (W * H) := ⟨_, rfl⟩
  have hsl := spotL_lt bs (W * H)
  have hsn := spotL_len bs (W * H)
  have hslc := fun k hk => slc_eq bs W H n k hk
  rw [← hidxe] at hP hsl hsn ⊢
  simp only [← hidxe] at hslc
  have hl : idx.length ≤ 1048576 := by omega
  have kp := hp.all3
  have lp := hp.lt
  have hmk := run_make_row' (P := Try.prog) 25 3 (.int .i64 0) 8 Try.underlying25 info_int rfl .i64 .i64 W (by omega) (by omega)
  rw [tabI_made] at hmk
  have Hsl := Lib.hid hsl; have HP := Lib.hid hP; have Hslc := Lib.hid hslc
  clear hsl hP hsn hidxe hslc
  go_enter Try.func140, Try.ntmps140
  go_wp2_with fail
  refine (slants_any H n _ hH.2 hH.1 hn).mono ?_
  rintro e w3 ⟨gs, rfl, hgs, hbs, hb3⟩
  have kp3 := (hp.bl hb3).all3
  have lp3 := (hp.bl hb3).lt
  have hbs4 := hbs.alloc (.cells (tabI W fun _ => 0) 3)
  have lbs := hbs.lt
  have start : Blk (w3.alloc (.cells (tabI W fun _ => 0) 3)) w3.heap.size 3 (tabI W fun k => (((idx.take 0).countP (slcK W H n k) : Nat) : Int)) := by simpa using Blk.new w3 3 (tabI W fun _ => 0)
  have Start := Lib.hid start; have Hbs4 := Lib.hid hbs4
  clear start hbs hbs4 kp lp
  go_wp2_with fail
  go_loopw [20] (fun u wr => ∃ j : Nat, j ≤ idx.length ∧ u = .int .i64 j ∧ Bl w3 wr ∧ Blk wr w3.heap.size 3 (tabI W fun k => (((idx.take j).countP (slcK W H n k) : Nat) : Int)) ∧ Blk wr gs 3 (tabI H (slantI H n))) (fun u _ => idx.length - (intOf u).toNat)
  case atStart => exact ⟨0, Nat.zero_le _, rfl, (Bl.refl _).alloc _, Start.out, Hbs4.out⟩
  case round =>
    clear kp3 lp3 hmk
    obtain ⟨j, hj, rfl, hbr, hbo, hbs⟩ := hrel
    by_cases hlt : j < idx.length
    · obtain ⟨pg, eP, hc⟩ := (HP.out.bl hb3).bl hbr (by omega)
      subst eP
      obtain ⟨i, hi⟩ : ∃ i, idx[j]? = some i := ⟨_, List.getElem?_eq_getElem hlt⟩
      obtain ⟨hc1, hc2⟩ := hc j i hi
      have hil := Hsl.out i (List.mem_of_getElem? hi)
      have mlt : i % W < W := Nat.mod_lt _ (by omega)
      have dlt : i / W < H := Nat.div_lt_of_lt_mul hil
      have hcl := hbs.tabAt dlt
      have hbd2 := slantI_bd hH.2 hn dlt
      have hat : ∀ k, slcK W H n k i = decide (((i % W : Nat) : Int) + slantI H n (i / W) = (k : Int)) := fun _ => rfl
      have htk := fun k => take_count (slcK W H n k) idx j i hi
      have htl := fun k => take_count_le (slcK W H n k) idx j
      obtain ⟨xi, hxi⟩ : ∃ n, n = i % W := ⟨_, rfl⟩
      obtain ⟨yi, hyi⟩ : ∃ n, n = i / W := ⟨_, rfl⟩
      rw [← hxi] at mlt hc1
      rw [← hyi] at dlt hcl hbd2 hc2
      rw [← hxi, ← hyi] at hat
      obtain ⟨la, hla⟩ : ∃ l, l = slantI H n yi := ⟨_, rfl⟩
      rw [← hla] at hcl hbd2 hat
      obtain ⟨at_, hat_⟩ : ∃ n : Int, (xi : Int) + la = n := ⟨_, rfl⟩
      rw [hat_] at hat
      have bat : -5000 ≤ at_ ∧ at_ ≤ 15000 := by omega
      have Hat := Lib.hid hat; have Htk := Lib.hid htk; have Htl := Lib.hid htl
      clear hat htk htl hxi hyi hla hil hi hc
      go_upto_region 6 with fail
      have hb5 : Bl wr (wr.alloc (.cells #[.int .i64 xi, .int .i64 yi] 133)) := (Bl.refl _).alloc _
      have b5 := Blk.new wr 133 #[.int .i64 xi, .int .i64 yi]
      generalize hw5 : wr.alloc (.cells #[.int .i64 xi, .int .i64 yi] 133) = w5 at hb5 b5 ⊢
      have k5 := b5.all2
      have k1 := (hp.bl (hb3.trans (hbr.trans hb5))).all3
      have hcl5 := hb5.at hcl
      have hf5 := (hbs.bl hb5).frozen
      have hbo5 := hbo.bl hb5
      have hbs5 := hbs.bl hb5
      have hbr5 := hbr.trans hb5
      clear hw5 hcl hc1 hc2 hbo hbs hbr hb5
      rcases (show at_ < 0 ∨ (¬ at_ < 0 ∧ (W : Int) ≤ at_) ∨ (0 ≤ at_ ∧ at_ < (W : Int)) by omega) with hr | ⟨hr, hr2⟩ | ⟨hr, hr2⟩
      iterate 2
        · have hstep : tabI W (fun k => (((idx.take j).countP (slcK W H n k) : Nat) : Int)) = tabI W (fun k => (((idx.take (j + 1)).countP (slcK W H n k) : Nat) : Int)) :=
            tabI_congr fun k hk => by
              have hx : ¬ (at_ = (k : Int)) := by omega
              rw [Htk.out k, Hat.out k]; simp [b1, hx]
          rw [hstep] at hbo5
          clear hstep
          refine wp_region_flow [(true, 0), (true, 1), (true, 2), (true, 3), (true, 4), (true, 5), (true, 6), (true, 7), (true, 8)] (fun _ => false) (by kernel_rfl) (by kernel_rfl) (by kernel_rfl) (by kernel_rfl) ?_
          iterate 1
            apply Flow.calm2 _ _ rfl rfl
            · intro w' hb' K' hK'
              obtain ⟨hc', hf'⟩ := hb'.rule
              go_simp
              try go_ints
              exact hK'
            · intro K' hK'
              simp only [Act.put, List.setIfInBounds_toArray, List.set_cons_zero, List.set_cons_succ]
              exact hK'
          iterate 1
            apply Flow.calm2 _ _ rfl rfl
            · intro w' hb' K' hK'
              obtain ⟨hc', hf'⟩ := hb'.rule
              go_simp
              try go_ints
              exact hK'
            · intro K' hK'
              simp only [Act.put, List.setIfInBounds_toArray, List.set_cons_zero, List.set_cons_succ]
              exact hK'
          iterate 1
            apply Flow.mv _ rfl
            · intro K' hK'
              simp only [Act.put, Act.eval, List.setIfInBounds_toArray, List.set_cons_zero, List.set_cons_succ, arr_getD, List.getD_cons_zero, List.getD_cons_succ]
              exact hK'
          iterate 1
            apply Flow.calm2 _ _ rfl rfl
            · intro w' hb' K' hK'
              obtain ⟨hc', hf'⟩ := hb'.rule
              go_simp
              try go_ints
              exact hK'
            · intro K' hK'
              simp only [Act.put, List.setIfInBounds_toArray, List.set_cons_zero, List.set_cons_succ]
              exact hK'
          iterate 1
            apply Flow.calm2 _ _ rfl rfl
            · intro w' hb' K' hK'
              obtain ⟨hc', hf'⟩ := hb'.rule
              go_simp
              try go_ints
              exact hK'
            · intro K' hK'
              simp only [Act.put, List.setIfInBounds_toArray, List.set_cons_zero, List.set_cons_succ]
              exact hK'
          iterate 1
            apply Flow.calm2 _ _ rfl rfl
            · intro w' hb' K' hK'
              obtain ⟨hc', hf'⟩ := hb'.rule
              go_simp
              try go_ints
              exact hK'
            · intro K' hK'
              simp only [Act.put, List.setIfInBounds_toArray, List.set_cons_zero, List.set_cons_succ]
              exact hK'
          iterate 1
            apply Flow.calm2 _ _ rfl rfl
            · intro w' hb' K' hK'
              obtain ⟨hc', hf'⟩ := hb'.rule
              go_simp
              try go_ints
              exact hK'
            · intro K' hK'
              simp only [Act.put, List.setIfInBounds_toArray, List.set_cons_zero, List.set_cons_succ]
              exact hK'
          iterate 1
            apply Flow.calm2 _ _ rfl rfl
            · intro w' hb' K' hK'
              obtain ⟨hc', hf'⟩ := hb'.rule
              go_simp
              try go_ints
              exact hK'
            · intro K' hK'
              simp only [Act.put, List.setIfInBounds_toArray, List.set_cons_zero, List.set_cons_succ]
              exact hK'
          iterate 1
            apply Flow.asg _ rfl
            · intro K' hK'
              simp only [Act.put, Act.eval, List.setIfInBounds_toArray, List.set_cons_zero, List.set_cons_succ, arr_getD, List.getD_cons_zero, List.getD_cons_succ]
              exact hK'
          refine Flow.done ?_
          go_wp2_with fail
          exact ⟨⟨j + 1, hlt, by go_num, hbr5.drew, hbo5.drew, hbs5.drew⟩, by simp [intOf]; omega⟩
      · obtain ⟨a, rfl⟩ := Int.eq_ofNat_of_zero_le hr
        have ha : a < W := by omega
        have kc := hbo5.tabAt ha
        have kf := hbo5.frozen a
        have hset := hbo5.tabSet (f' := fun k => (((idx.take (j + 1)).countP (slcK W H n k) : Nat) : Int)) a ((((idx.take j).countP (slcK W H n a) : Nat) : Int) + 1) (fun k hk => by
          rw [Htk.out k, Hat.out k]
          by_cases e : k = a
          · subst e; simp [b1]
          · have : ¬ ((a : Int) = (k : Int)) := by omega
            simp [e, this, b1])
        have hcb := Htl.out a
        obtain ⟨c, hc⟩ : ∃ c, c = (idx.take j).countP (slcK W H n a) := ⟨_, rfl⟩
        rw [← hc] at kc hset hcb
        have Hset := Lib.hid hset; have Hc := Lib.hid hc
        clear hset hc
        refine wp_region_flow [(true, 0), (true, 1), (true, 2), (true, 3), (true, 4), (true, 5), (true, 6), (true, 7), (true, 8)] (fun _ => false) (by kernel_rfl) (by kernel_rfl) (by kernel_rfl) (by kernel_rfl) ?_
        iterate 1
          apply Flow.calm2 _ _ rfl rfl
          · intro w' hb' K' hK'
            obtain ⟨hc', hf'⟩ := hb'.rule
            go_simp
            try go_ints
            exact hK'
          · intro K' hK'
            simp only [Act.put, List.setIfInBounds_toArray, List.set_cons_zero, List.set_cons_succ]
            exact hK'
        iterate 1
          apply Flow.calm2 _ _ rfl rfl
          · intro w' hb' K' hK'
            obtain ⟨hc', hf'⟩ := hb'.rule
            go_simp
            try go_ints
            exact hK'
          · intro K' hK'
            simp only [Act.put, List.setIfInBounds_toArray, List.set_cons_zero, List.set_cons_succ]
            exact hK'
        iterate 1
          apply Flow.mv _ rfl
          · intro K' hK'
            simp only [Act.put, Act.eval, List.setIfInBounds_toArray, List.set_cons_zero, List.set_cons_succ, arr_getD, List.getD_cons_zero, List.getD_cons_succ]
            exact hK'
        iterate 1
          apply Flow.calm2 _ _ rfl rfl
          · intro w' hb' K' hK'
            obtain ⟨hc', hf'⟩ := hb'.rule
            go_simp
            try go_ints
            exact hK'
          · intro K' hK'
            simp only [Act.put, List.setIfInBounds_toArray, List.set_cons_zero, List.set_cons_succ]
            exact hK'
        iterate 1
          apply Flow.calm2 _ _ rfl rfl
          · intro w' hb' K' hK'
            obtain ⟨hc', hf'⟩ := hb'.rule
            go_simp
            try go_ints
            exact hK'
          · intro K' hK'
            simp only [Act.put, List.setIfInBounds_toArray, List.set_cons_zero, List.set_cons_succ]
            exact hK'
        iterate 1
          apply Flow.calm2 _ _ rfl rfl
          · intro w' hb' K' hK'
            obtain ⟨hc', hf'⟩ := hb'.rule
            go_simp
            try go_ints
            exact hK'
          · intro K' hK'
            simp only [Act.put, List.setIfInBounds_toArray, List.set_cons_zero, List.set_cons_succ]
            exact hK'
        iterate 1
          apply Flow.calm2 _ _ rfl rfl
          · intro w' hb' K' hK'
            obtain ⟨hc', hf'⟩ := hb'.rule
            go_simp
            try go_ints
            exact hK'
          · intro K' hK'
            simp only [Act.put, List.setIfInBounds_toArray, List.set_cons_zero, List.set_cons_succ]
            exact hK'
        iterate 1
          apply Flow.calm2 _ _ rfl rfl
          · intro w' hb' K' hK'
            obtain ⟨hc', hf'⟩ := hb'.rule
            go_simp
            try go_ints
            exact hK'
          · intro K' hK'
            simp only [Act.put, List.setIfInBounds_toArray, List.set_cons_zero, List.set_cons_succ]
            exact hK'
        iterate 1
          apply Flow.asg _ rfl
          · intro K' hK'
            simp only [Act.put, Act.eval, List.setIfInBounds_toArray, List.set_cons_zero, List.set_cons_succ, arr_getD, List.getD_cons_zero, List.getD_cons_succ]
            exact hK'
        refine Flow.done ?_
        go_wp2_with fail
        exact ⟨⟨j + 1, hlt, by go_num, (hbr5.setCell (by simp) _).drew, Hset.out.drew, (hbs5.far (by simp; omega) _).drew⟩, by simp [intOf]; omega⟩
    · obtain rfl : j = idx.length := by omega
      rw [List.take_length] at hbo
      have e : tabI W (fun k => ((idx.countP (slcK W H n k) : Nat) : Int)) = tabI W (colI (grid W H (slantF bs W H n)) W H) := tabI_congr fun k hk => by rw [Hslc.out k hk]; rfl
      rw [e] at hbo
      have Hr := Lib.hid hbo.tabReads
      clear e hbo
      go_wp2_with fail
      refine (squares_any (some ⟨w3.heap.size, 0, none⟩) W W (colI (grid W H (slantF bs W H n)) W H) wr Hr.out (by omega) (fun k => by have := colN_le (grid W H (slantF bs W H n)) W H k; unfold colI; omega)).mono ?_
      rintro e w4 ⟨rfl, rfl⟩
      go_wp2_with fail
      go_ret
      exact ⟨rfl, hb3.trans hbr⟩

set_option maxRecDepth 100000 in
set_option maxHeartbeats 1000000 in
theorem findOf1_any (p W H : Nat) (A : Option Addr) (ac : Nat) (bs : List Bool) (n : Int) (w : World) (hp : Blk w p 39 #[.int .i64 W, .int .i64 H, .slice A (W * H) ac]) (hA : Reads w 1 A (W * H) (bs.map .bool)) (hW : W ≤ 4000) (hH : 1 ≤ H ∧ H ≤ 4000) (hbd : W * H ≤ 1048576) (hn : -256 ≤ n ∧ n ≤ 256) :
    Calls Try.prog 142 #[.int .i64 n, .pointer (some ⟨p, 0, none⟩)] w fun e w' => e = .returned (.int .i64 (scoreI bs W H (-n))) ∧ Bl w w' := by
  have kp := hp.all3
  have c1 := profileOf_any W H A ac bs (-n) w hA hW hH (by omega)
  obtain ⟨q, hq⟩ : ∃ q, -n = q := ⟨_, rfl⟩
  rw [hq] at c1 ⊢
  have C1 := Lib.hid c1
  clear c1 hA
  go_enter Try.func142, Try.ntmps142
  go_wp2_with fail
  refine C1.out.mono ?_
  rintro e w1 ⟨g, rfl, hbk, hb1⟩
  have Hr := Lib.hid hbk.tabReads
  clear hbk
  go_wp2_with fail
  refine (square_any (some ⟨g, 0, none⟩) (2 * H) (2 * H) (profI bs W H q) w1 Hr.out (by omega) (profI_bd hbd)).mono ?_
  rintro e w2 ⟨rfl, rfl⟩
  go_wp2_with fail
  go_ret
  exact ⟨rfl, hb1⟩
set_option maxRecDepth 100000 in
set_option maxHeartbeats 1000000 in
theorem findSlantOf1_any (p W H : Nat) (A : Option Addr) (ac : Nat) (bs : List Bool) (n : Int) (w : World) (hp : Blk w p 39 #[.int .i64 W, .int .i64 H, .slice A (W * H) ac]) (hA : Reads w 1 A (W * H) (bs.map .bool)) (hW : W ≤ 4000) (hH : 1 ≤ H ∧ H ≤ 4000) (hn : -256 ≤ n ∧ n ≤ 256) :
    Calls Try.prog 143 #[.int .i64 n, .pointer (some ⟨p, 0, none⟩)] w fun e w' => e = .returned (.int .i64 (slantS bs W H (-n))) ∧ Bl w w' := by
  have kp := hp.all3
  have c1 := slantOf_any W H A ac bs (-n) w hA hW hH.2 (by omega)
  obtain ⟨q, hq⟩ : ∃ q, -n = q := ⟨_, rfl⟩
  rw [hq] at c1 ⊢
  have C1 := Lib.hid c1
  clear c1 hA
  go_enter Try.func143, Try.ntmps143
  go_wp2_with fail
  refine C1.out.mono ?_
  rintro e w1 ⟨R, rc, rfl, hR, _, hb1⟩
  have HR := Lib.hid hR
  clear hR
  go_wp2_with fail
  refine (columnsOf_any W H R rc (grid W H (slantF bs W H q)) w1 HR.out hW hH.2).mono ?_
  rintro e w2 ⟨P, c, rfl, hP, hb2⟩
  have HP := Lib.hid hP
  clear hP
  go_wp2_with fail
  refine (square_any P W c (colI (grid W H (slantF bs W H q)) W H) w2 HP.out (by omega) (fun k => by have := colN_le (grid W H (slantF bs W H q)) W H k; unfold colI; omega)).mono ?_
  rintro e w3 ⟨rfl, rfl⟩
  go_wp2_with fail
  go_ret
  exact ⟨rfl, hb1.trans hb2⟩

end Go.Proofs.Ytccgncjncklheaa
