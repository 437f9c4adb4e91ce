/- bedref2.SheetOf and skew.Sheet. -/
import Derived.Test.YtecfjdladcmhjaaSheet2
import Derived.Test.YtecfjdladcmhjaaFlow2
import Derived.Deep.CutRange
import Derived.Deep.Light
namespace Go.Proofs.Ytecfjdladcmhjaa
open Go.RowKit

/-! ### plain -/
def SheetIs (f1 : Nat → Nat) (H : Nat) (f2 : Nat → Nat) (W : Nat) (is : Bool) (X Y BW BH : Int) : Prop :=
  (is = false ∧ (NoEnds f1 H ∨ NoEnds f2 W) ∧ X = 0 ∧ Y = 0 ∧ BW = 0 ∧ BH = 0) ∨
  (is = true ∧ ∃ t b l r : Nat, Ends f1 H t b ∧ Ends f2 W l r ∧ X = l ∧ Y = t ∧ BW = (r : Int) - l + 1 ∧ BH = (b : Int) - t + 1)
theorem SheetIs.same {f1 f2 : Nat → Nat} {W H : Nat} {is is' : Bool} {X Y BW BH X' Y' BW' BH' : Int} (h : SheetIs f1 H f2 W is X Y BW BH) (k : SheetIs f1 H f2 W is' X' Y' BW' BH') : is = is' ∧ X = X' ∧ Y = Y' ∧ BW = BW' ∧ BH = BH' := by
  rcases h with ⟨h1, h2, h3, h4, h5, h6⟩ | ⟨h1, t, b, l, r, h2, h3, h4, h5, h6, h7⟩ <;> rcases k with ⟨k1, k2, k3, k4, k5, k6⟩ | ⟨k1, t', b', l', r', k2, k3, k4, k5, k6, k7⟩
  · exact ⟨by rw [h1, k1], by omega, by omega, by omega, by omega⟩
  · rcases h2 with h2 | h2
    · exact (k2.not h2).elim
    · exact (k3.not h2).elim
  · rcases k2 with k2 | k2
    · exact (h2.not k2).elim
    · exact (h3.not k2).elim
  · obtain ⟨e1, e2⟩ := h2.same k2
    obtain ⟨e3, e4⟩ := h3.same k3
    exact ⟨by rw [h1, k1], by omega, by omega, by omega, by omega⟩
def darkL (zs : List Int) (W H : Nat) (level : Int) : List Bool := grid W H (bitF zs W level)
theorem darkL_pix (zs : List Int) (W H : Nat) (level : Int) {x y : Nat} (hx : x < W) (hy : y < H) : pix (darkL zs W H level) W x y = decide (vix zs W x y < level) := pix_grid W H _ x y hx hy
def rowsT (bs : List Bool) (W y x k : Nat) : Nat := if k < y then rowN bs W k else if k = y then sumN (fun x' => b1 (pix bs W x' k)) x else 0
def colsT (bs : List Bool) (W y x k : Nat) : Nat := sumN (fun y' => b1 (pix bs W k y')) (if k < x then y + 1 else y)
theorem rowsT_step (bs : List Bool) (W y x k : Nat) : rowsT bs W y (x + 1) k = if k = y then rowsT bs W y x y + b1 (pix bs W x y) else rowsT bs W y x k := by
  unfold rowsT
  by_cases h : k = y
  · subst h
    rw [if_neg (by omega), if_pos rfl, if_pos rfl, if_neg (by omega), if_pos rfl]
    rfl
  · simp only [if_neg h]
theorem colsT_step (bs : List Bool) (W y x k : Nat) : colsT bs W y (x + 1) k = if k = x then colsT bs W y x x + b1 (pix bs W x y) else colsT bs W y x k := by
  unfold colsT
  by_cases h : k = x
  · subst h
    rw [if_pos (by omega), if_pos rfl, if_neg (by omega)]
    rfl
  · rw [if_neg h]
    have : (k < x + 1) = (k < x) := by apply propext; omega
    simp only [this]
theorem rowsT_row (bs : List Bool) (W y k : Nat) : rowsT bs W y W k = rowsT bs W (y + 1) 0 k := by
  unfold rowsT
  by_cases h : k < y
  · rw [if_pos h, if_pos (by omega)]
  · by_cases h2 : k = y
    · subst h2
      rw [if_neg h, if_pos rfl, if_pos (by omega)]; rfl
    · rw [if_neg h, if_neg h2, if_neg (by omega)]
      by_cases h3 : k = y + 1
      · rw [if_pos h3]; rfl
      · rw [if_neg h3]
theorem colsT_row (bs : List Bool) (W y k : Nat) (hk : k < W) : colsT bs W y W k = colsT bs W (y + 1) 0 k := by
  unfold colsT
  rw [if_pos hk, if_neg (by omega)]
theorem rowsT_end (bs : List Bool) (W H k : Nat) (hk : k < H) : rowsT bs W H 0 k = rowN bs W k := by unfold rowsT; rw [if_pos hk]
theorem colsT_end (bs : List Bool) (W H k : Nat) : colsT bs W H 0 k = colN bs W H k := by unfold colsT; rw [if_neg (by omega)]; rfl
theorem rowsT_le (bs : List Bool) (W y x k : Nat) : rowsT bs W y x k ≤ W + x := by
  unfold rowsT
  split
  · have := rowN_le bs W k; omega
  · split
    · have := sumN_le (f := fun x' => b1 (pix bs W x' k)) (c := 1) (fun _ => b1_le _) x
      omega
    · omega
theorem colsT_le (bs : List Bool) (W y x k : Nat) : colsT bs W y x k ≤ y + 1 := by
  unfold colsT
  have h := fun n => sumN_le (f := fun y' => b1 (pix bs W k y')) (c := 1) (fun _ => b1_le _) n
  split
  · have := h (y + 1); omega
  · have := h y; omega

set_option maxRecDepth 100000 in
set_option maxHeartbeats 8000000 in
theorem sheetOf_any (W H : Nat) (A : Option Addr) (ac : Nat) (zs : List Int) (level part : Int) (w : World) (hA : Reads w 1 A (W * H) (zs.map (.int .u8))) (hz : Bytes zs) (hW : 1 ≤ W ∧ W ≤ 4000) (hH : 1 ≤ H ∧ H ≤ 4000) (h1 : 1 ≤ part ∧ part ≤ 1000) :
    Calls Try.prog 9 #[.agg #[.int .i64 W, .int .i64 H, .slice A (W * H) ac], .int .i64 level, .int .i64 part] w fun e w' => ∃ (X Y BW BH : Int) (is : Bool), e = .returned (.tuple #[.agg #[.int .i64 X, .int .i64 Y, .int .i64 BW, .int .i64 BH], .bool is]) ∧
      SheetIs (paperN (rowN (darkL zs W H level) W) part W) H (paperN (colN (darkL zs W H level) W H) part H) W is X Y BW BH ∧ Bl w w' := by
  let w2 := (((w).alloc (.cells #[.int .i64 W, .int .i64 H, .slice A (W * H) ac] 24)).alloc (.cells #[.int .i64 part] 3)).alloc (.cells #[.int .i64 0, .int .i64 0, .int .i64 0, .int .i64 0] 29)
  have w2b : Bl w w2 := (((Bl.refl w).alloc _).alloc _).alloc _
  have w21 : Blk w2 (w.heap.size) 24 #[.int .i64 W, .int .i64 H, .slice A (W * H) ac] := by
    have h0 := Blk.new (w) 24 #[.int .i64 W, .int .i64 H, .slice A (W * H) ac]
    exact ((h0.alloc _).alloc _)
  have w22 : Blk w2 (w.heap.size + 1) 3 #[.int .i64 part] := by
    have h0 := Blk.new ((w).alloc (.cells #[.int .i64 W, .int .i64 H, .slice A (W * H) ac] 24)) 3 #[.int .i64 part]
    simp only [World.size_alloc] at h0
    exact (h0.alloc _)
  have w23 : Blk w2 (w.heap.size + 1 + 1) 29 #[.int .i64 0, .int .i64 0, .int .i64 0, .int .i64 0] := by
    have h0 := Blk.new (((w).alloc (.cells #[.int .i64 W, .int .i64 H, .slice A (W * H) ac] 24)).alloc (.cells #[.int .i64 part] 3)) 29 #[.int .i64 0, .int .i64 0, .int .i64 0, .int .i64 0]
    simp only [World.size_alloc] at h0
    exact h0
  have k1 := w21.all3
  have lw2 : w2.heap.size = w.heap.size + 3 := by simp [w2]
  have hmk1 := run_make_row' (P := Try.prog) 55 3 (.int .i64 0) 8 Try.underlying55 info_int rfl .i64 .i64 W (by omega) (by omega)
  have hmk2 := run_make_row' (P := Try.prog) 55 3 (.int .i64 0) 8 Try.underlying55 info_int rfl .i64 .i64 H (by omega) (by omega)
  rw [tabI_made] at hmk1 hmk2
  obtain ⟨bs, hbs⟩ : ∃ bs, bs = darkL zs W H level := ⟨_, rfl⟩
  have hpx : ∀ x y, x < W → y < H → pix bs W x y = decide (vix zs W x y < level) := fun x y hx hy => by rw [hbs]; exact darkL_pix zs W H level hx hy
  rw [← hbs]
  have HA := Lib.hid (hA.bl w2b); have Hz := Lib.hid hz; have Hpx := Lib.hid hpx
  have hent := enters Try.func25 (by kernel_rfl) rfl
  clear hA hz hpx hbs
  go_enter Try.func9, Try.ntmps9
  go_upto_region 1 with fail
  have hw2 : (((w.alloc (.cells #[.int .i64 W, .int .i64 H, .slice A (W * H) ac] 24)).alloc (.cells #[.int .i64 part] 3)).alloc (.cells #[.int .i64 0, .int .i64 0, .int .i64 0, .int .i64 0] 29)) = w2 := rfl
  rw [hw2]
  clear hw2
  clear_value w2
  go_cut [8, 9] from 19 to 24 (fun s8 s9 wc => ∃ g1 g2, s8 = .slice (some ⟨g1, 0, none⟩) H H ∧ s9 = .slice (some ⟨g2, 0, none⟩) W W ∧ g1 ≠ g2 ∧ w.heap.size + 3 ≤ g1 ∧ w.heap.size + 3 ≤ g2 ∧ Blk wc g1 3 (tabI H fun _ => 0) ∧ Blk wc g2 3 (tabI W fun _ => 0) ∧ Bl w2 wc)
  case first =>
    refine wp_region_fork [(true, 0), (true, 1), (true, 3), (true, 4)] 2 [(true, 6), (false, 5), (true, 7)] 5 [(false, 2), (true, 6), (true, 7)] (fun _ => false) (by kernel_rfl) (by kernel_rfl) (by kernel_rfl) (by kernel_rfl) ?_
    iterate 1
      apply Flow.calm2 _ _ rfl rfl
      · intro w' hb' K' hK'
        obtain ⟨hc', hf'⟩ := hb'.rule
        go_simp
        try go_ints
        exact hK'
      · intro K' hK'
        simp only [Act.put, List.setIfInBounds_toArray, List.set_cons_zero, List.set_cons_succ]
        exact hK'
    iterate 1
      apply Flow.calm2 _ _ rfl rfl
      · intro w' hb' K' hK'
        obtain ⟨hc', hf'⟩ := hb'.rule
        go_simp
        try go_ints
        exact hK'
      · intro K' hK'
        simp only [Act.put, List.setIfInBounds_toArray, List.set_cons_zero, List.set_cons_succ]
        exact hK'
    iterate 1
      apply Flow.calm2 _ _ rfl rfl
      · intro w' hb' K' hK'
        obtain ⟨hc', hf'⟩ := hb'.rule
        go_simp
        try go_ints
        exact hK'
      · intro K' hK'
        simp only [Act.put, List.setIfInBounds_toArray, List.set_cons_zero, List.set_cons_succ]
        exact hK'
    iterate 1
      apply Flow.calm2 _ _ rfl rfl
      · intro w' hb' K' hK'
        obtain ⟨hc', hf'⟩ := hb'.rule
        go_simp
        try go_ints
        exact hK'
      · intro K' hK'
        simp only [Act.put, List.setIfInBounds_toArray, List.set_cons_zero, List.set_cons_succ]
        exact hK'
    refine Flow.fork ?_
    refine ⟨?_, ?_⟩
    · apply Flow.move rfl
      go_wp2_with fail
      first | refine ⟨fun _ => ?_, ?_⟩ | refine ⟨?_, ?_⟩
      · repeat' (first | exact Bl.refl _ | refine Bl.drewL ?_ | refine Bl.drew ?_ | refine Bl.alloc ?_ _)
      iterate 1
        apply Flow.asg _ rfl
        · intro K' hK'
          simp only [Act.put, Act.eval, List.setIfInBounds_toArray, List.set_cons_zero, List.set_cons_succ, arr_getD, List.getD_cons_zero, List.getD_cons_succ]
          exact hK'
      apply Flow.move rfl
      go_wp2_with fail
      first | refine ⟨fun _ => ?_, ?_⟩ | refine ⟨?_, ?_⟩
      · repeat' (first | exact Bl.refl _ | refine Bl.drewL ?_ | refine Bl.drew ?_ | refine Bl.alloc ?_ _)
      iterate 1
        apply Flow.asg _ rfl
        · intro K' hK'
          simp only [Act.put, Act.eval, List.setIfInBounds_toArray, List.set_cons_zero, List.set_cons_succ, arr_getD, List.getD_cons_zero, List.getD_cons_succ]
          exact hK'
      refine Flow.done ?_
      go_wp2_with fail
      go_meet
      case rel =>
        refine ⟨w.heap.size + 3, w.heap.size + 4, rfl, rfl, by omega, by omega, by omega, ?_, ?_, ?_⟩
        · have h := Blk.new w2 3 (tabI H fun _ => 0)
          rw [lw2] at h
          exact (h.alloc _).drew
        · have h := Blk.new (w2.alloc (.cells (tabI H fun _ => 0) 3)) 3 (tabI W fun _ => 0)
          rw [World.size_alloc, lw2] at h
          exact h.drew
        · exact (((Bl.refl w2).alloc _).alloc _).drew
    · apply Flow.move rfl
      go_wp2_with fail
      first | refine ⟨fun _ => ?_, ?_⟩ | refine ⟨?_, ?_⟩
      · repeat' (first | exact Bl.refl _ | refine Bl.drewL ?_ | refine Bl.drew ?_ | refine Bl.alloc ?_ _)
      apply Flow.move rfl
      go_wp2_with fail
      first | refine ⟨fun _ => ?_, ?_⟩ | refine ⟨?_, ?_⟩
      · repeat' (first | exact Bl.refl _ | refine Bl.drewL ?_ | refine Bl.drew ?_ | refine Bl.alloc ?_ _)
      iterate 2
        apply Flow.asg _ rfl
        · intro K' hK'
          simp only [Act.put, Act.eval, List.setIfInBounds_toArray, List.set_cons_zero, List.set_cons_succ, arr_getD, List.getD_cons_zero, List.getD_cons_succ]
          exact hK'
      refine Flow.done ?_
      go_wp2_with fail
      go_meet
      case rel =>
        refine ⟨w.heap.size + 4, w.heap.size + 3, rfl, rfl, by omega, by omega, by omega, ?_, ?_, ?_⟩
        · have h := Blk.new (w2.alloc (.cells (tabI W fun _ => 0) 3)) 3 (tabI H fun _ => 0)
          rw [World.size_alloc, lw2] at h
          exact h.drew
        · have h := Blk.new w2 3 (tabI W fun _ => 0)
          rw [lw2] at h
          exact (h.alloc _).drew
        · exact (((Bl.refl w2).alloc _).alloc _).drew
  case rest =>
    obtain ⟨g1, g2, rfl, rfl, hgg, hg1, hg2, hb1, hb2, hbc⟩ := hcut
    rename World => w3
    clear k1 hmk1 hmk2
    have k1 := (w21.bl hbc).all3
    have st1 : Blk w3 g1 3 (tabI H fun k => ((rowsT bs W 0 0 k : Nat) : Int)) := by
      have e : tabI H (fun _ => 0) = tabI H (fun k => ((rowsT bs W 0 0 k : Nat) : Int)) := tabI_congr fun k _ => by
        unfold rowsT
        rw [if_neg (by omega)]
        split <;> rfl
      rw [← e]; exact hb1
    have st2 : Blk w3 g2 3 (tabI W fun k => ((colsT bs W 0 0 k : Nat) : Int)) := by
      have e : tabI W (fun _ => 0) = tabI W (fun k => ((colsT bs W 0 0 k : Nat) : Int)) := tabI_congr fun k _ => by
        unfold colsT
        rw [if_neg (by omega)]
        rfl
      rw [← e]; exact hb2
    have St1 := Lib.hid st1; have St2 := Lib.hid st2
    clear hb1 hb2 st1 st2
    go_wp2_with fail
    go_loopw [27] (fun u wr => ∃ y : Nat, y ≤ H ∧ u = .int .i64 y ∧ Bl w2 wr ∧ Blk wr g1 3 (tabI H fun k => ((rowsT bs W y 0 k : Nat) : Int)) ∧ Blk wr g2 3 (tabI W fun k => ((colsT bs W y 0 k : Nat) : Int))) (fun u _ => H - (intOf u).toNat)
    case atStart => exact ⟨0, Nat.zero_le _, rfl, hbc, St1.out, St2.out⟩
    case round =>
      clear k1
      obtain ⟨y, hy1, rfl, hbr, hr, hc⟩ := hrel
      have k1 := (w21.bl hbr).all3
      by_cases hlt : y < H
      · go_wp2_with fail
        go_loopw [32] (fun u wr => ∃ x : Nat, x ≤ W ∧ u = .int .i64 x ∧ Bl w2 wr ∧ Blk wr g1 3 (tabI H fun k => ((rowsT bs W y x k : Nat) : Int)) ∧ Blk wr g2 3 (tabI W fun k => ((colsT bs W y x k : Nat) : Int))) (fun u _ => W - (intOf u).toNat)
        case atStart => exact ⟨0, Nat.zero_le _, rfl, hbr, hr, hc⟩
        case round =>
          clear k1 hbr hr hc
          rename_i wo _ _
          obtain ⟨x, hx1, rfl, hbr, hr, hc⟩ := hrel
          have k1 := (w21.bl hbr).all3
          by_cases hlt2 : x < W
          · obtain ⟨ad, rfl, hcc⟩ := ((HA.out.bl hbr).vplace hlt2 hlt)
            have hk := place_lt hlt2 hlt
            have hvb : 0 ≤ vix zs W x y ∧ vix zs W x y ≤ 255 := Hz.out.at _
            have hp := Hpx.out x y hlt2 hlt
            have hs1 := fun k => rowsT_step bs W y x k
            have hs2 := fun k => colsT_step bs W y x k
            have hl1 := rowsT_le bs W y x y
            have hl2 := colsT_le bs W y x x
            obtain ⟨k, hkk⟩ : ∃ k, k = y * W + x := ⟨_, rfl⟩
            rw [← hkk] at hcc hk
            have f1 : (y : Int) * (W : Int) + (x : Int) = (k : Int) := by rw [hkk]; simp
            have f2 : (k : Int) < (W : Int) * (H : Int) := by have := Int.natCast_mul W H; omega
            have f3 : (0 : Int) ≤ (y : Int) * (W : Int) ∧ (y : Int) * (W : Int) ≤ 16000000 := by
              have := Int.natCast_mul y W
              have := Nat.mul_le_mul (show y ≤ 4000 by omega) hW.2
              omega
            obtain ⟨v, hv⟩ : ∃ v, v = vix zs W x y := ⟨_, rfl⟩
            rw [← hv] at hcc hvb hp
            simp only [hp] at hs1 hs2
            have Hkk := Lib.hid hkk; have Hp := Lib.hid hp
            clear hkk hv hp
            by_cases hd : v < level
            · have hset1 := hr.tabSet (f' := fun k => ((rowsT bs W y (x + 1) k : Nat) : Int)) y (((rowsT bs W y x y : Nat) : Int) + 1) (fun j _ => by
                rw [hs1 j]
                by_cases e : j = y
                · rw [if_pos e, if_pos e]; simp [b1, hd]
                · rw [if_neg e, if_neg e])
              have hset2 := fun (wz : World) (hz : Blk wz g2 3 (tabI W fun k => ((colsT bs W y x k : Nat) : Int))) => hz.tabSet (f' := fun k => ((colsT bs W y (x + 1) k : Nat) : Int)) x (((colsT bs W y x x : Nat) : Int) + 1) (fun j _ => by
                rw [hs2 j]
                by_cases e : j = x
                · rw [if_pos e, if_pos e]; simp [b1, hd]
                · rw [if_neg e, if_neg e])
              have kr := hr.tabAt hlt
              have kc := hc.tabAt hlt2
              have fr := hr.frozen y
              have fc := hc.frozen x
              obtain ⟨c1, hc1⟩ : ∃ c, c = rowsT bs W y x y := ⟨_, rfl⟩
              obtain ⟨c2, hc2⟩ : ∃ c, c = colsT bs W y x x := ⟨_, rfl⟩
              rw [← hc1] at kr hset1 hl1
              rw [← hc2] at kc hl2
              simp only [← hc2] at hset2
              have Hset1 := Lib.hid hset1; have Hset2 := Lib.hid hset2
              have hgg' : ¬ (g2 = g1) := fun e => hgg e.symm
              have bc1 : c1 ≤ 8001 := by omega
              have bc2 : c2 ≤ 4001 := by omega
              clear hset1 hset2 hs1 hs2 hc1 hc2
              go_wp2_with fail
              exact ⟨⟨x + 1, hlt2, by go_num, (hbr.setCell (by simp; omega) _).setCell (by simp; omega) _, Hset1.out.far (by simpa using hgg) _, Hset2.out _ (hc.far (by simpa using hgg') _)⟩, by simp [intOf]; omega⟩
            · have hsame1 : tabI H (fun k => ((rowsT bs W y x k : Nat) : Int)) = tabI H (fun k => ((rowsT bs W y (x + 1) k : Nat) : Int)) := tabI_congr fun j _ => by
                rw [hs1 j]
                by_cases e : j = y
                · rw [if_pos e, e]; simp [b1, hd]
                · rw [if_neg e]
              have hsame2 : tabI W (fun k => ((colsT bs W y x k : Nat) : Int)) = tabI W (fun k => ((colsT bs W y (x + 1) k : Nat) : Int)) := tabI_congr fun j _ => by
                rw [hs2 j]
                by_cases e : j = x
                · rw [if_pos e, e]; simp [b1, hd]
                · rw [if_neg e]
              rw [hsame1] at hr
              rw [hsame2] at hc
              clear hsame1 hsame2 hs1 hs2
              go_wp2_with fail
              exact ⟨⟨x + 1, hlt2, by go_num, hbr, hr, hc⟩, by simp [intOf]; omega⟩
          · obtain rfl : x = W := by omega
            have e1 : tabI H (fun k => ((rowsT bs x y x k : Nat) : Int)) = tabI H (fun k => ((rowsT bs x (y + 1) 0 k : Nat) : Int)) := tabI_congr fun j _ => by rw [rowsT_row]
            have e2 : tabI x (fun k => ((colsT bs x y x k : Nat) : Int)) = tabI x (fun k => ((colsT bs x (y + 1) 0 k : Nat) : Int)) := tabI_congr fun j hj => by rw [colsT_row bs x y j hj]
            rw [e1] at hr
            rw [e2] at hc
            clear e1 e2
            go_wp2_with fail
            exact ⟨⟨y + 1, hlt, by go_num, hbr, hr, hc⟩, by simp [intOf]; omega⟩
      · obtain rfl : y = H := by omega
        have e1 : tabI y (fun k => ((rowsT bs W y 0 k : Nat) : Int)) = tabI y (fun k => ((rowN bs W k : Nat) : Int)) := tabI_congr fun j hj => by rw [rowsT_end bs W y j hj]
        have e2 : tabI W (fun k => ((colsT bs W y 0 k : Nat) : Int)) = tabI W (fun k => ((colN bs W y k : Nat) : Int)) := tabI_congr fun j _ => by rw [colsT_end]
        rw [e1] at hr
        rw [e2] at hc
        have Hr := Lib.hid hr.tabReads; have Hc := Lib.hid hc.tabReads
        have c1 := sheetOf1_any (w.heap.size + 1) y (some ⟨g1, 0, none⟩) y (rowN bs W) part (W : Int) wr (w22.bl hbr) Hr.out hH.2 (fun i => by have := rowN_le bs W i; omega) h1 (by omega)
        have C1 := Lib.hid c1
        clear e1 e2 hr hc c1
        go_wp2_with fail
        refine C1.out.mono ?_
        rintro e w4 ⟨t, b, is1, rfl, hx1, hb4⟩
        have hb24 := hbr.trans hb4
        have k4 := (w21.bl hb24).all3
        have c2 := sheetOf1_any (w.heap.size + 1) W (some ⟨g2, 0, none⟩) W (colN bs W y) part (y : Int) w4 (w22.bl hb24) (Hc.out.bl hb4) hW.2 (fun i => by have := colN_le bs W y i; omega) h1 (by omega)
        have C2 := Lib.hid c2; have Hx1 := Lib.hid hx1
        clear k1 hx1 c2
        go_wp2_with fail
        refine C2.out.mono ?_
        rintro e w5 ⟨l, r, is2, rfl, hx2, hb5⟩
        have hb25 := hb24.trans hb5
        have k6 := (w23.bl hb25).all4
        have hle := w2b.trans hb25
        have Hx2 := Lib.hid hx2
        clear hx2 k4
        have hno : ∀ (hh : NoEnds (paperN (rowN bs W) part W) y ∨ NoEnds (paperN (colN bs W y) part y) W), SheetIs (paperN (rowN bs W) part W) y (paperN (colN bs W y) part y) W false 0 0 0 0 := fun hh => Or.inl ⟨rfl, hh, rfl, rfl, rfl, rfl⟩
        have hfin0 := (((((hle.setCell (p := ⟨w.heap.size + 1 + 1, 0, none⟩) (by simp; omega) (.int .i64 0)).setCell (p := ⟨w.heap.size + 1 + 1, 1, none⟩) (by simp; omega) (.int .i64 0)).setCell (p := ⟨w.heap.size + 1 + 1, 2, none⟩) (by simp; omega) (.int .i64 0)).setCell (p := ⟨w.heap.size + 1 + 1, 3, none⟩) (by simp; omega) (.int .i64 0)))
        cases is1
        · have hn1 : NoEnds (paperN (rowN bs W) part W) y := by
            rcases Hx1.out with ⟨_, h⟩ | ⟨h, _⟩
            · exact h
            · cases h
          have Hfin := Lib.hid (hno (Or.inl hn1)); have Hf0 := Lib.hid hfin0
          clear hn1 hno hfin0
          go_wp2_with fail
          refine bodyPost_ret (v := .tuple #[.agg #[.int .i64 0, .int .i64 0, .int .i64 0, .int .i64 0], .bool false]) (by simp [results, Try.results9, go_sem, k6]) rfl ?_
          refine ⟨0, 0, 0, 0, ?_⟩
          first | exact ⟨false, rfl, Hfin.out, Hf0.out⟩ | exact Or.inl ⟨rfl, Hfin.out, Hf0.out⟩
        · cases is2
          · have hn1 : NoEnds (paperN (colN bs W y) part y) W := by
              rcases Hx2.out with ⟨_, h⟩ | ⟨h, _⟩
              · exact h
              · cases h
            have Hfin := Lib.hid (hno (Or.inr hn1)); have Hf0 := Lib.hid hfin0
            clear hn1 hno hfin0
            go_wp2_with fail
            refine bodyPost_ret (v := .tuple #[.agg #[.int .i64 0, .int .i64 0, .int .i64 0, .int .i64 0], .bool false]) (by simp [results, Try.results9, go_sem, k6]) rfl ?_
            refine ⟨0, 0, 0, 0, ?_⟩
            first | exact ⟨false, rfl, Hfin.out, Hf0.out⟩ | exact Or.inl ⟨rfl, Hfin.out, Hf0.out⟩
          · have he1 : Ends (paperN (rowN bs W) part W) y t b := by
              rcases Hx1.out with ⟨h, _⟩ | ⟨_, h⟩
              · cases h
              · exact h
            have he2 : Ends (paperN (colN bs W y) part y) W l r := by
              rcases Hx2.out with ⟨h, _⟩ | ⟨_, h⟩
              · cases h
              · exact h
            have a1 := he1.1.1; have a2 := he1.2.1; have a3 := he2.1.1; have a4 := he2.2.1
            have hbox : SheetIs (paperN (rowN bs W) part W) y (paperN (colN bs W y) part y) W true l t ((r : Int) - l + 1) ((b : Int) - t + 1) := Or.inr ⟨rfl, t, b, l, r, he1, he2, rfl, rfl, rfl, rfl⟩
            have Hfin := Lib.hid hbox
            have hfin1 := (((((hle.setCell (p := ⟨w.heap.size + 1 + 1, 0, none⟩) (by simp; omega) (.int .i64 l)).setCell (p := ⟨w.heap.size + 1 + 1, 1, none⟩) (by simp; omega) (.int .i64 t)).setCell (p := ⟨w.heap.size + 1 + 1, 2, none⟩) (by simp; omega) (.int .i64 ((r : Int) - l + 1))).setCell (p := ⟨w.heap.size + 1 + 1, 3, none⟩) (by simp; omega) (.int .i64 ((b : Int) - t + 1))))
            have Hf1 := Lib.hid hfin1
            clear he1 he2 hbox hno hfin0 hfin1
            go_wp2_with fail
            refine bodyPost_ret (v := .tuple #[.agg #[.int .i64 l, .int .i64 t, .int .i64 ((r : Int) - l + 1), .int .i64 ((b : Int) - t + 1)], .bool true]) (by simp [results, Try.results9, go_sem, k6]) rfl ?_
            refine ⟨(l : Int), (t : Int), (r : Int) - l + 1, (b : Int) - t + 1, ?_⟩
            first | exact ⟨true, rfl, Hfin.out, Hf1.out⟩ | exact Or.inr ⟨rfl, Hfin.out, Hf1.out⟩

end Go.Proofs.Ytecfjdladcmhjaa
