/- TopStraight: leaning is undone by leaning back; full rows that lean are made straight again. -/
import Derived.Test.YtkhajhcfplicpaaDoorS16
import Derived.Test.YtkhajhcfplicpaaDoorS17
import Derived.Test.YtkhajhcfplicpaaDoorS3
import Derived.Test.YtkhajhcfplicpaaDoorS6
import Derived.Deep.CutRange
import Derived.Deep.Light

namespace Go.Proofs.YtkhajhcfplicpaaDoor
open Go.RowKit

theorem landed_any (w : World) : Calls Tryd.prog 39 #[] w fun e w' => e = .returned (.bool true) ∧ Bl w w' := by
  have h := fun w => isName_any ⟨#[97]⟩ w (by decide)
  have hn : nameB (⟨#[97]⟩ : ByteArray).data.toList = true := by decide
  rw [hn] at h
  go_enter Tryd.func39, Tryd.ntmps39
  go_wp2_with fail
  refine (h _).mono ?_
  rintro e w1 ⟨rfl, hb⟩
  go_wp2_with fail
  go_ret
  exact ⟨rfl, hb⟩

set_option maxRecDepth 100000 in
set_option maxHeartbeats 400000 in
theorem same_any (W H : Nat) (v u : Value) (xs : List Bool) (w : World) (hv : IsPage w v W H (xs.map Value.bool)) (hu : IsPage w u W H (xs.map Value.bool)) (hl : W * H ≤ 1099511627776) :
    Calls Tryd.prog 42 #[v, u] w fun e w' => e = .returned (.bool true) ∧ Bl w w' := by
  obtain ⟨A, c, rfl, hA⟩ := hv
  obtain ⟨B, d, rfl, hB⟩ := hu
  have hn : xs.length = W * H := by have := hA.1; simpa using this
  have heq := fun (w1 : World) (hb : Bl w w1) => equalBits_any A B c d xs xs w1 (by rw [hn]; exact hA.bl hb) (by rw [hn]; exact hB.bl hb) (by omega)
  rw [hn] at heq
  have Heq := Lib.hid heq; clear heq
  have Hn := Lib.hid hn
  clear hA hB hn
  go_enter Tryd.func42, Tryd.ntmps42
  go_wp2_with fail
  refine (Heq.out _ (((Bl.refl _).alloc _).alloc _)).mono ?_
  rintro e w1 ⟨rfl, hb1⟩
  go_wp2_with fail
  go_ret
  exact ⟨ret_bool (by simp), (((Bl.refl _).alloc _).alloc _).trans hb1⟩

set_option maxRecDepth 100000 in
set_option maxHeartbeats 400000 in
theorem blank_new (W H : Nat) (w : World) (hs : sizeErr W H = 0) :
    Calls Tryd.prog 18 #[.int .i64 W, .int .i64 H] w fun e w' =>
      ∃ g, e = .returned (.tuple #[.agg #[.int .i64 W, .int .i64 H, .slice (some ⟨g, 0, none⟩) (W * H) (W * H)], .int .i64 0]) ∧ w.heap.size ≤ g ∧ Blk w' g 4 (Array.replicate (W * H) (.bool false)) ∧ Bl w w' := by
  have hz' := sizeErr_zero hs
  have hWH : (W : Int) * (H : Int) = ((W * H : Nat) : Int) := by simp
  have h1 : (0:Int) ≤ (W:Int) * (H:Int) := by omega
  have h2 : (W:Int) * (H:Int) ≤ 1048576 := by omega
  have hN : W * H ≤ 1048576 := by omega
  have hmk := run_make_row' (P := Tryd.prog) 22 4 (.bool false) 1 Tryd.underlying22 info_bool rfl .i64 .i64 (W * H) (by omega) (by omega)
  rw [← hWH] at hmk
  have hq : (sizeErr W H != 0) = false := by simp [hs]
  have HS := Lib.hid hs; have HWH := Lib.hid hWH
  clear hs hWH
  go_enter Tryd.func18, Tryd.ntmps18
  go_wp2_with (go_at_call 122; refine (checkSize_any _ _ _).mono ?_; rintro e w1 ⟨rfl, rfl⟩)
  have hm : madeCells #[.bool false] (W * H) = Array.replicate (W * H) (.bool false) := by
    apply Array.ext_getElem?
    intro i
    rcases Nat.lt_or_ge i (W * H) with h | h
    · simp [madeCells, h, Nat.mod_one]
    · rw [Array.getElem?_eq_none (by rw [size_madeCells]; exact h), Array.getElem?_eq_none (by simpa using h)]
  rw [hm]
  refine bodyPost_ret (v := .tuple #[.agg #[.int .i64 W, .int .i64 H, .slice (some ⟨w.heap.size + 1, 0, none⟩) (W * H) (W * H)], .int .i64 0]) (by simp [results, Tryd.results18, go_sem]) rfl ⟨_, rfl, by simp, ?_, ?_⟩
  · have hb := Blk.new (w.alloc (.cells #[.int .i64 W, .int .i64 H, .slice (some ⟨w.heap.size + 1, 0, none⟩) (W * H) (W * H)] 24)) 4 (Array.replicate (W * H) (.bool false))
    simpa using hb
  · repeat' (first | exact Bl.refl _ | refine Bl.drew ?_ | refine Bl.setCell ?_ (by simp) _ | refine Bl.alloc ?_ _)

/-! ### the rows are laid -/
def stF (rs : List Bool) (W y x i : Nat) : Bool := decide (8 ≤ i / W) && (decide (i / W < y + 8) || (decide (i / W = y + 8) && decide (i % W < x))) && rs.getD (i / W - 8) false
def fullR (rs : List Bool) (y : Nat) : Bool := decide (8 ≤ y) && rs.getD (y - 8) false
theorem stF_start (rs : List Bool) (W i : Nat) : stF rs W 0 0 i = false := by
  unfold stF
  by_cases h : 8 ≤ i / W
  · rw [decide_eq_true h, decide_eq_false (show ¬ i / W < 0 + 8 by omega), decide_eq_false (show ¬ i % W < 0 by omega)]
    simp
  · rw [decide_eq_false h]; rfl
theorem stF_row (rs : List Bool) {W : Nat} (hW : 1 ≤ W) (y i : Nat) : stF rs W y W i = stF rs W (y + 1) 0 i := by
  unfold stF
  rw [decide_eq_true (Nat.mod_lt i hW), decide_eq_false (show ¬ i % W < 0 by omega), Bool.and_true, Bool.and_false, Bool.or_false]
  congr 2
  rw [Bool.eq_iff_iff]
  simp only [Bool.or_eq_true, decide_eq_true_eq]
  omega
theorem stF_end (rs : List Bool) {W n : Nat} (hn : rs.length = n) (i : Nat) : stF rs W n 0 i = fullR rs (i / W) := by
  unfold stF fullR
  rw [decide_eq_false (show ¬ i % W < 0 by omega), Bool.and_false, Bool.or_false]
  by_cases h : i / W < n + 8
  · rw [decide_eq_true h, Bool.and_true]
  · have e : rs.getD (i / W - 8) false = false := by
      rw [List.getD_eq_getElem?_getD, List.getElem?_eq_none (by omega)]; rfl
    rw [e, Bool.and_false, Bool.and_false]
theorem stF_step (rs : List Bool) {W x : Nat} (hx : x < W) (y : Nat) (i : Nat) : stF rs W y (x + 1) i = if i = (y + 8) * W + x then rs.getD y false else stF rs W y x i := by
  by_cases h : i = (y + 8) * W + x
  · rw [if_pos h]
    obtain ⟨e1, e2⟩ := at_parts (y + 8) hx
    unfold stF
    rw [h, e1, e2, decide_eq_true (show 8 ≤ y + 8 by omega), decide_eq_true (show y + 8 = y + 8 from rfl), decide_eq_true (show x < x + 1 by omega)]
    simp
  · rw [if_neg h]
    unfold stF
    have e : (decide (i / W = y + 8) && decide (i % W < x + 1)) = (decide (i / W = y + 8) && decide (i % W < x)) := by
      rw [Bool.eq_iff_iff]
      simp only [Bool.and_eq_true, decide_eq_true_eq]
      constructor
      · rintro ⟨h1, h2⟩
        refine ⟨h1, ?_⟩
        rcases Nat.lt_succ_iff_lt_or_eq.1 h2 with h3 | h3
        · exact h3
        · exfalso
          apply h
          have h4 := Nat.div_add_mod i W
          rw [h1, h3, Nat.mul_comm] at h4
          exact h4.symm
      · rintro ⟨h1, h2⟩
        exact ⟨h1, by omega⟩
    rw [e]

/-! ### Lean and Straight of good pages -/
theorem page_of_size {W H : Nat} (hs : sizeErr W H = 0) : pageErr W H (W * H) = 0 := by
  unfold pageErr
  rw [if_pos hs, if_pos (by simp)]
theorem lean_good (W H : Nat) (v : Value) (bs : List Bool) (n : Int) (w : World) (hv : IsPage w v W H (bs.map .bool)) (hs : sizeErr W H = 0) (hn : -256 ≤ n ∧ n ≤ 256) :
    Calls Tryd.prog 40 #[v, .int .i64 n] w fun e w' => ∃ v', e = .returned (.tuple #[v', .int .i64 0]) ∧ NPage w.heap.size w' v' W H ((grid W H (leanF bs W H n)).map .bool) ∧ Bl w w' := by
  obtain ⟨A, c, rfl, hA⟩ := hv
  have he : leanErr W H (W * H) n = 0 := by
    unfold leanErr
    simp only [firstNZ, if_pos (page_of_size hs), inB_true.2 hn]
    rfl
  refine (lean_any W H A (W * H) c bs n w hA).mono ?_
  rintro e w' ⟨a, b, R, m, d, rfl, hres, hb⟩
  have h := hres.1 he
  rw [he]
  simp only [Int.toNat_natCast] at h
  exact ⟨_, rfl, h, hb⟩
theorem straight_good (W H : Nat) (v : Value) (bs : List Bool) (most : Nat) (w : World) (hv : IsPage w v W H (bs.map .bool)) (hs : sizeErr W H = 0) (hm : most ≤ 256) (hi : inkB bs (W * H) = true) :
    Calls Tryd.prog 41 #[v, .int .i64 most] w fun e w' => ∃ v' n', e = .returned (.tuple #[v', .int .i64 n', .int .i64 0]) ∧ n' = (bestN (negF (scoreI bs W H)) most).1 ∧ NPage w.heap.size w' v' W H ((grid W H (leanF bs W H (-n'))).map .bool) ∧ Bl w w' := by
  obtain ⟨A, c, rfl, hA⟩ := hv
  have he : findErr W H (W * H) most (inkB bs (W * H)) = 0 := by
    unfold findErr
    rw [hi]
    simp only [firstNZ, if_pos (page_of_size hs), inB_true.2 (show (0 : Int) ≤ (most : Int) ∧ (most : Int) ≤ 256 by omega)]
    rfl
  refine (straight_any W H A (W * H) c bs most w hA).mono ?_
  rintro e w' ⟨a, b, R, m, d, n', rfl, _, h2, hres, hb⟩
  have h := hres.1 he
  have h3 := h2 he
  rw [he]
  simp only [Int.toNat_natCast] at h h3
  exact ⟨_, n', rfl, h3, h, hb⟩

/-! ### the rows as a page with margins -/
section
variable {rs : List Bool} {rn : Nat}
theorem fullR_bd (hl : rs.length = rn) : ∀ y, y < rn + 16 → fullR rs y = true → 8 ≤ y ∧ y + 8 < rn + 16 := by
  intro y _ hf
  unfold fullR at hf
  simp only [Bool.and_eq_true, decide_eq_true_eq] at hf
  refine ⟨hf.1, ?_⟩
  by_cases h : y - 8 < rs.length
  · omega
  · have h2 := hf.2
    rw [List.getD_eq_getElem?_getD, List.getElem?_eq_none (by omega)] at h2
    cases h2
theorem fullR_ex (hl : rs.length = rn) (h : true ∈ rs) : ∃ y, y < rn + 16 ∧ fullR rs y = true := by
  obtain ⟨j, hj⟩ := List.getElem?_of_mem h
  have h1 := (List.getElem?_eq_some_iff.1 hj).1
  refine ⟨j + 8, by omega, ?_⟩
  unfold fullR
  rw [decide_eq_true (show 8 ≤ j + 8 by omega), Nat.add_sub_cancel, List.getD_eq_getElem?_getD, hj]
  rfl
theorem ink_leaned {full : Nat → Bool} {W H : Nat} {n : Int} (hW : 1 ≤ W) (hex : ∃ y, y < H ∧ full y = true) : inkB (grid W H (leanF (rowsG full W H) W H n)) (W * H) = true := by
  obtain ⟨y, hy, hf⟩ := hex
  have hx : (W - 1) / 2 < W := by omega
  unfold inkB
  refine decide_eq_true ?_
  rcases Nat.eq_zero_or_pos (spotL (grid W H (leanF (rowsG full W H) W H n)) (W * H)).length with h | h
  · exfalso
    have h2 := spotL_none.1 h _ (place_lt hx hy)
    rw [lean_pix hx hy, leanI_mid hW] at h2
    unfold fullI at h2
    rw [decide_eq_true (by omega)] at h2
    simp [hf] at h2
  · exact h
end

theorem margins_back {bs : List Bool} {U V K : Nat} {n : Int} (hK : K = V + 20) (hU : U ≤ 200) (hn : -64 ≤ n ∧ n ≤ 64) :
    grid U K (leanF (grid U K (leanF (grid U K (pasteF (List.replicate (U * K) false) bs U K U V 0 10)) U K n)) U K (-n)) = grid U K (pasteF (List.replicate (U * K) false) bs U K U V 0 10) := by
  refine unlean (fun x hx => leanI_small hU hn hx) (fun _ _ => rfl) (fun x y hx hy hf => ?_)
  have hp : pix (List.replicate (U * K) false) U x y = false := by
    unfold pix
    rw [List.getD_eq_getElem?_getD, List.getElem?_replicate]
    split <;> rfl
  rw [pasteF_near hx hy hp] at hf
  unfold atI at hf
  simp only [Bool.and_eq_true, decide_eq_true_eq] at hf
  omega

set_option maxRecDepth 100000 in
set_option maxHeartbeats 40000000 in
theorem lawStraight_any (ww n : Int) (A B : Option Addr) (rn rc bn bc : Nat) (rs bs : List Bool) (bW bH : Int) (w : World) (hA : Reads w 1 A rn (rs.map .bool)) (hB : Reads w 1 B bn (bs.map .bool)) :
    Calls Tryd.prog 4 #[.int .i64 ww, .slice A rn rc, .agg #[.int .i64 bW, .int .i64 bH, .slice B bn bc], .int .i64 n] w fun e w2 => e = .returned (.bool true) ∧ Bl w w2 := by
  let w1 := (w).alloc (.cells #[.int .i64 bW, .int .i64 bH, .slice B bn bc] 24)
  have w1b : Bl w w1 := (Bl.refl w).alloc _
  have w11 : Blk w1 (w.heap.size) 24 #[.int .i64 bW, .int .i64 bH, .slice B bn bc] := by
    have h0 := Blk.new (w) 24 #[.int .i64 bW, .int .i64 bH, .slice B bn bc]
    exact h0
  have HA := Lib.hid (hA.bl w1b); have HB := Lib.hid (hB.bl w1b)
  have HL := Lib.hid (show rs.length = rn by have := hA.1; simpa using this)
  clear hA hB
  by_cases hin : 1 ≤ ww ∧ ww ≤ 200 ∧ 1 ≤ rn ∧ rn ≤ 40 ∧ -64 ≤ n ∧ n ≤ 64
  · obtain ⟨i1, i2, i3, i4, i5, i6⟩ := hin
    obtain ⟨W, rfl⟩ := Int.eq_ofNat_of_zero_le (show 0 ≤ ww by omega)
    obtain ⟨H, hH⟩ : ∃ H, H = rn + 16 := ⟨_, rfl⟩
    have hcast : (rn : Int) + 16 = (H : Int) := by omega
    have hsz : sizeErr W H = 0 := by
      have h1 : W * H ≤ 200 * 56 := Nat.mul_le_mul (by omega) (by omega)
      have h2 := Int.natCast_mul W H
      unfold sizeErr
      (repeat' split) <;> first | rfl | (exfalso; omega)
    have hbl := fun w => blank_new W H w hsz
    rw [← hcast] at hbl
    have HBl := Lib.hid hbl; have HH := Lib.hid hH; have Hsz := Lib.hid hsz; have Hcast := Lib.hid hcast
    clear hbl hH hcast hsz
    go_enter Tryd.func4, Tryd.ntmps4
    go_wp2_with fail
    refine (landed_any _).mono ?_
    rintro e w2 ⟨rfl, hb2⟩
    go_wp2_with fail
    refine (HBl.out _).mono ?_
    rintro e w3 ⟨g, rfl, hg, hgb, hb3⟩
    have hc3 : Bl w1 w3 := hb2.trans hb3
    have Hle3 := Lib.hid (show w1.heap.size ≤ w3.heap.size from hc3.le)
    have hgs : w1.heap.size ≤ g := Nat.le_trans (show w1.heap.size ≤ w2.heap.size from hb2.le) hg
    have hgl := hgb.lt
    have b0 := hgb.alloc (.cells #[.int .i64 W, .int .i64 ((rn : Int) + 16), .slice (some ⟨g, 0, none⟩) (W * H) (W * H)] 24)
    have hc4 : Bl w1 (w3.alloc (.cells #[.int .i64 W, .int .i64 ((rn : Int) + 16), .slice (some ⟨g, 0, none⟩) (W * H) (W * H)] 24)) := hc3.alloc _
    have bx := Blk.new w3 24 #[.int .i64 W, .int .i64 ((rn : Int) + 16), .slice (some ⟨g, 0, none⟩) (W * H) (W * H)]
    have Hgs := Lib.hid hgs
    have Hgl := Lib.hid hgl
    have hng : w3.heap.size ≠ g := by omega
    have Hng := Lib.hid hng
    rw [Hcast.out] at bx hc4 b0
    clear hgb hb2 hb3 hg hgs hgl hng
    go_upto_region 8 with fail
    rw [Hcast.out]
    generalize hw4 : w3.alloc (.cells #[.int .i64 W, .int .i64 H, .slice (some ⟨g, 0, none⟩) (W * H) (W * H)] 24) = w4 at b0 hc4 bx ⊢
    clear hw4 hc3
    have hst : Blk w4 g 4 (tabB (W * H) (stF rs W 0 0)) := by
      have e : (Array.replicate (W * H) (.bool false) : Array Value) = tabB (W * H) (stF rs W 0 0) := by
        have e2 : stF rs W 0 0 = fun _ => false := funext fun i => stF_start rs W i
        rw [e2]
        unfold tabB
        apply Array.ext_getElem?
        intro i
        by_cases h : i < W * H <;> simp [h]
      rw [← e]
      exact b0
    have Hst := Lib.hid hst; have Hc4 := Lib.hid hc4; have Bx := Lib.hid bx
    clear b0 hst hc4 bx
    go_wp2_with fail
    go_loopw [63] (fun u wr => ∃ y : Nat, y ≤ rn ∧ u = .int .i64 y ∧ Bl w1 wr ∧ Blk wr g 4 (tabB (W * H) (stF rs W y 0)) ∧ Blk wr w3.heap.size 24 #[.int .i64 W, .int .i64 H, .slice (some ⟨g, 0, none⟩) (W * H) (W * H)]) (fun u _ => rn - (RowKit.intOf u).toNat)
    case atStart => exact ⟨0, Nat.zero_le _, rfl, Hc4.out, Hst.out, Bx.out⟩
    case round =>
      obtain ⟨y, hy, rfl, hbr, hbo, hbx⟩ := hrel
      clear Hst Hc4 Bx
      by_cases hlt : y < rn
      · obtain ⟨ad, ur, rfl, hu, hca⟩ := (HA.out.bl hbr).at_ hlt
        have hur : ur = .bool (rs.getD y false) := by
          have hl2 : y < rs.length := by rw [HL.out]; exact hlt
          simpa [List.getD, hl2] using hu.symm
        subst hur
        obtain ⟨v, hv⟩ : ∃ v, v = rs.getD y false := ⟨_, rfl⟩
        rw [← hv] at hca
        have Hv := Lib.hid hv; have Hbr := Lib.hid hbr; have Hbo := Lib.hid hbo; have Hbx := Lib.hid hbx
        clear hu hv hbr hbo hbx
        go_wp2_with fail
        go_loopw [69] (fun u w5 => ∃ x : Nat, x ≤ W ∧ u = .int .i64 x ∧ Bl w1 w5 ∧ Blk w5 g 4 (tabB (W * H) (stF rs W y x)) ∧ Blk w5 w3.heap.size 24 #[.int .i64 W, .int .i64 H, .slice (some ⟨g, 0, none⟩) (W * H) (W * H)]) (fun u _ => W - (RowKit.intOf u).toNat)
        case atStart => exact ⟨0, Nat.zero_le _, rfl, Hbr.out, Hbo.out, Hbx.out⟩
        case round =>
          obtain ⟨x, hx, rfl, hb5, hb5o, hb5x⟩ := hrel
          clear Hbo Hbx
          by_cases hxl : x < W
          · have hyl : y + 8 < H := by have := HH.out; omega
            have hal := place_lt hxl hyl
            obtain ⟨a, ha⟩ : ∃ a, a = (y + 8) * W + x := ⟨_, rfl⟩
            rw [← ha] at hal
            have e8 : ((y : Int) + 8) = ((y + 8 : Nat) : Int) := by omega
            have f1 : ((y : Int) + 8) * (W : Int) + (x : Int) = (a : Int) := by rw [e8, ← Int.natCast_mul, ha, Int.natCast_add]
            have f2 : (a : Int) < (W : Int) * (H : Int) := by have := Int.natCast_mul W H; omega
            have f3 : (0 : Int) ≤ ((y : Int) + 8) * (W : Int) ∧ ((y : Int) + 8) * (W : Int) ≤ 16000000 := by
              have := Nat.mul_le_mul (show y + 8 ≤ 4000 by omega) (show W ≤ 4000 by omega)
              rw [e8, ← Int.natCast_mul]
              omega
            have kx := hb5x.all3
            have kc := hb5o.tabAtB hal
            have kf := hb5o.frozen a
            have hset := hb5o.tabSetB (f' := stF rs W y (x + 1)) a v (fun k _ => by rw [stF_step rs hxl, Hv.out, ha])
            have hfar := hb5x.far (p := ⟨g, a, none⟩) Hng.out (.bool v)
            have hble := hb5.setCell (p := ⟨g, a, none⟩) Hgs.out (.bool v)
            have Hset := Lib.hid hset; have Hfar := Lib.hid hfar; have Hble := Lib.hid hble
            clear hset hfar hble e8 ha hb5x hb5o hb5 hca
            go_wp2_with fail
            exact ⟨⟨x + 1, hxl, by go_num, Hble.out, Hset.out, Hfar.out⟩, by simp [RowKit.intOf]; omega⟩
          · obtain rfl : x = W := by omega
            have hrow : stF rs x y x = stF rs x (y + 1) 0 := funext fun i => stF_row rs (by omega) y i
            rw [hrow] at hb5o
            have HO := Lib.hid hb5o; have HX := Lib.hid hb5x; have HB5 := Lib.hid hb5
            clear hb5o hb5x hb5 hrow hca
            go_wp2_with fail
            exact ⟨⟨y + 1, hlt, by go_num, HB5.out, HO.out, HX.out⟩, by simp [RowKit.intOf]; omega⟩
      · obtain rfl : y = rn := by omega
        have hP : IsPage wr (.agg #[.int .i64 W, .int .i64 H, .slice (some ⟨g, 0, none⟩) (W * H) (W * H)]) W H ((rowsG (fullR rs) W H).map .bool) := by
          refine ⟨_, _, rfl, ?_⟩
          have h := hbo.tabReadsB
          have e : stF rs W y 0 = fun i => fullR rs (i / W) := funext fun i => stF_end rs HL.out i
          rw [e] at h
          exact h
        have HP := Lib.hid hP; have Hbr := Lib.hid hbr; have Hbx := Lib.hid hbx
        clear hP hbr hbx hbo
        go_wp2_with fail
        refine (containsB_any A y rc rs true _ (HA.out.bl Hbr.out) (by omega)).mono ?_
        rintro e w5 ⟨rfl, rfl⟩
        go_upto_if 85 with fail
        go_cut [] from 85 to 113 (fun wc => Bl wr wc)
        case first =>
          by_cases hd : true ∈ rs
          · rw [decide_eq_true hd]
            have hex := fullR_ex HL.out hd
            rw [← HH.out] at hex
            have Hex := Lib.hid hex
            have kx := Hbx.out.all3
            clear hd hex
            go_wp2_with fail
            refine (lean_good W H _ _ n _ HP.out Hsz.out (by omega)).mono ?_
            rintro e w6 ⟨v6, rfl, ⟨R6, d6, rfl, hr6, hn6⟩, hb6⟩
            have b7 := Blk.new w6 24 #[.int .i64 W, .int .i64 H, .slice R6 (W * H) d6]
            have hb7 : Bl wr (w6.alloc (.cells #[.int .i64 W, .int .i64 H, .slice R6 (W * H) d6] 24)) := hb6.alloc _
            have hr7 := hr6.bl ((Bl.refl w6).alloc (.cells #[.int .i64 W, .int .i64 H, .slice R6 (W * H) d6] 24))
            have Hr7 := Lib.hid hr7
            clear hr6 hn6 hr7 kx
            go_upto_region 19 with fail
            generalize hw7 : w6.alloc (.cells #[.int .i64 W, .int .i64 H, .slice R6 (W * H) d6] 24) = w7 at b7 hb7 Hr7 ⊢
            clear hw7 hb6
            have k7 := b7.all3
            obtain ⟨M, hM⟩ : ∃ M : Nat, M = n.natAbs := ⟨_, rfl⟩
            have hmax : max n (-n) = (M : Int) := by omega
            have hMb : M ≤ 256 ∧ -(M : Int) ≤ n ∧ n ≤ (M : Int) := by omega
            have HMb := Lib.hid hMb
            clear hM hMb
            go_wp2_with fail
            refine (straight_good W H _ _ M _ ⟨_, _, rfl, Hr7.out⟩ Hsz.out HMb.out.1 (ink_leaned (by omega) Hex.out)).mono ?_
            rintro e w8 ⟨v8, n', rfl, hn', ⟨R8, d8, rfl, hr8, hn8⟩, hb8⟩
            have hback : grid W H (leanF (grid W H (leanF (rowsG (fullR rs) W H) W H n)) W H (-n')) = rowsG (fullR rs) W H := by
              have hH : H = y + 16 := HH.out
              have hbd : ∀ y, y < H → fullR rs y = true → 8 ≤ y ∧ y + 8 < H := by rw [hH]; exact fullR_bd HL.out
              rw [hn']
              exact unlean (fun x hx => leanI_small (by omega) ⟨i5, i6⟩ hx) (fun x hx => best_leans (by omega) ⟨i5, i6⟩ hbd Hex.out M HMb.out.2 x hx) (fun x y _ hy hf => hbd y hy hf)
            rw [hback] at hr8
            have b9 := Blk.new w8 24 #[.int .i64 W, .int .i64 H, .slice R8 (W * H) d8]
            have hb9 : Bl wr (w8.alloc (.cells #[.int .i64 W, .int .i64 H, .slice R8 (W * H) d8] 24)) := (hb7.trans hb8).alloc _
            have hr9 := hr8.bl ((Bl.refl w8).alloc (.cells #[.int .i64 W, .int .i64 H, .slice R8 (W * H) d8] 24))
            have Hr9 := Lib.hid hr9; have Hb9 := Lib.hid hb9; have B9 := Lib.hid b9
            clear hr8 hn8 hr9 hb9 b9 hn' hback k7
            go_upto_region 20 with fail
            generalize hw9 : w8.alloc (.cells #[.int .i64 W, .int .i64 H, .slice R8 (W * H) d8] 24) = w9 at Hr9 Hb9 B9 ⊢
            clear hw9 hb8
            have k9 := B9.out.all3
            have kx := (Hbx.out.bl Hb9.out).all3
            have hWH : W * H ≤ 1099511627776 := by
              have h1 : W * H ≤ 200 * 56 := Nat.mul_le_mul (by omega) (by have := HH.out; omega)
              omega
            go_wp2_with fail
            refine (same_any W H _ _ _ _ (HP.out.bl Hb9.out) ⟨_, _, rfl, Hr9.out⟩ hWH).mono ?_
            rintro e w10 ⟨rfl, hb10⟩
            go_wp2_with fail
            go_meet
            case rel => exact Hb9.out.trans hb10
          · rw [decide_eq_false hd]
            clear hd
            go_wp2_with fail
            go_meet
            case rel => exact Bl.refl _
        case rest =>
          rename World => wk
          have hc11 := Hbr.out.trans hcut
          have hbx11 := Hbx.out.bl hcut
          clear hcut HP Hbr Hbx
          have Hbx := Lib.hid hbx11
          clear hbx11
          have k1 := (w11.bl hc11).all3
          go_wp2_with fail
          refine (checkBits_any _ _ _ _ _ _).mono ?_
          rintro e w12 ⟨rfl, hb12⟩
          have hc12 := hc11.trans hb12
          have k2 := (w11.bl hc12).all3
          clear k1
          by_cases hp : pageErr bW bH bn = 0
          · have hq : (pageErr bW bH bn != 0) = false := by simp [hp]
            obtain ⟨U, V, rfl, rfl, rfl, u1, u2, u3⟩ := page_nat hp
            have hz := sizeErr_zero (pageErr_zero hp).1
            have hz1 : 1 ≤ U ∧ 1 ≤ V := by omega
            have hsb := (pageErr_zero hp).1
            have Hsb := Lib.hid hsb
            clear hp hz hsb
            by_cases hU : (U : Int) ≤ 100
            · by_cases hV : (V : Int) ≤ 60
              · obtain ⟨K, hK⟩ : ∃ K, K = V + 20 := ⟨_, rfl⟩
                have hcast : (V : Int) + 20 = (K : Int) := by omega
                have hsz2 : sizeErr U K = 0 := by
                  have h1 : U * K ≤ 100 * 80 := Nat.mul_le_mul (by omega) (by omega)
                  have h2 := Int.natCast_mul U K
                  unfold sizeErr
                  (repeat' split) <;> first | rfl | (exfalso; omega)
                have hbl2 := fun w => blank_new U K w hsz2
                rw [← hcast] at hbl2
                have HBl2 := Lib.hid hbl2; have HK := Lib.hid hK; have Hsz2 := Lib.hid hsz2; have Hcast2 := Lib.hid hcast
                have kx := (Hbx.out.bl hb12).all3
                have bx12 := Hbx.out.bl hb12
                clear hbl2 hK hcast hsz2
                go_wp2_with fail
                refine (HBl2.out _).mono ?_
                rintro e w13 ⟨g2, rfl, _, hgb2, hb13⟩
                have bx13 := bx12.bl hb13
                have kx13 := bx13.all3
                have hc13 := hc12.trans hb13
                have bset := ((bx13.set_ 0 (.int .i64 U)).set_ 1 (.int .i64 K)).set_ 2 (.slice (some ⟨g2, 0, none⟩) (U * K) (U * K))
                have bset' : Blk (((w13.setCell ⟨w3.heap.size, 0, none⟩ (.int .i64 U)).setCell ⟨w3.heap.size, 1, none⟩ (.int .i64 K)).setCell ⟨w3.heap.size, 2, none⟩ (.slice (some ⟨g2, 0, none⟩) (U * K) (U * K))) w3.heap.size 24 #[.int .i64 U, .int .i64 K, .slice (some ⟨g2, 0, none⟩) (U * K) (U * K)] := by simpa using bset
                have hc14 : Bl w1 (((w13.setCell ⟨w3.heap.size, 0, none⟩ (.int .i64 U)).setCell ⟨w3.heap.size, 1, none⟩ (.int .i64 K)).setCell ⟨w3.heap.size, 2, none⟩ (.slice (some ⟨g2, 0, none⟩) (U * K) (U * K))) := ((hc13.setCell Hle3.out _).setCell Hle3.out _).setCell Hle3.out _
                have hg3 : w3.heap.size ≠ g2 := by have h1 := bx12.lt; omega
                have hgb3 := (((hgb2.far (p := ⟨w3.heap.size, 0, none⟩) (fun h => hg3 h.symm) (.int .i64 U)).far (p := ⟨w3.heap.size, 1, none⟩) (fun h => hg3 h.symm) (.int .i64 K)).far (p := ⟨w3.heap.size, 2, none⟩) (fun h => hg3 h.symm) (.slice (some ⟨g2, 0, none⟩) (U * K) (U * K)))
                have Bs := Lib.hid bset'; have Hc14 := Lib.hid hc14; have Hgb3 := Lib.hid hgb3
                clear bset bset' hc14 hg3 hgb3 hgb2 kx k2
                go_upto_region 25 with fail
                try rw [Hcast2.out]
                generalize hw14 : (((w13.setCell ⟨w3.heap.size, 0, none⟩ (.int .i64 U)).setCell ⟨w3.heap.size, 1, none⟩ (.int .i64 K)).setCell ⟨w3.heap.size, 2, none⟩ (.slice (some ⟨g2, 0, none⟩) (U * K) (U * K))) = w14 at Bs Hc14 Hgb3 ⊢
                clear hw14 hb13 hc13 kx13
                have kx14 := Bs.out.all3
                have k14 := (w11.bl Hc14.out).all3
                have hp14 : IsPage w14 (.agg #[.int .i64 U, .int .i64 K, .slice (some ⟨g2, 0, none⟩) (U * K) (U * K)]) U K ((List.replicate (U * K) false).map .bool) := by
                  refine ⟨_, _, rfl, ?_⟩
                  have h := Hgb3.out.reads (U * K) 1 (by simp)
                  simpa using h
                have Hp14 := Lib.hid hp14
                clear hp14
                go_wp2_with fail
                refine (paste_ok U K U V _ _ _ bs 0 10 _ Hp14.out ⟨_, _, rfl, HB.out.bl Hc14.out⟩ Hsz2.out Hsb.out (by decide) (by decide)).mono ?_
                rintro e w15 ⟨v15, rfl, ⟨R15, d15, rfl, hr15, _⟩, hb15⟩
                have b16 := Blk.new w15 24 #[.int .i64 U, .int .i64 K, .slice R15 (U * K) d15]
                have hb16 : Bl w14 (w15.alloc (.cells #[.int .i64 U, .int .i64 K, .slice R15 (U * K) d15] 24)) := hb15.alloc _
                have hr16 := hr15.bl ((Bl.refl w15).alloc (.cells #[.int .i64 U, .int .i64 K, .slice R15 (U * K) d15] 24))
                have Hr16 := Lib.hid hr16; have Hb16 := Lib.hid hb16
                clear hr15 hr16 hb16 kx14 k14
                go_upto_region 26 with fail
                generalize hw16 : w15.alloc (.cells #[.int .i64 U, .int .i64 K, .slice R15 (U * K) d15] 24) = w16 at b16 Hr16 Hb16 ⊢
                clear hw16 hb15
                have hc16 := Hc14.out.trans Hb16.out
                have k16 := b16.all3
                go_wp2_with fail
                refine (lean_good U K _ _ n _ ⟨_, _, rfl, Hr16.out⟩ Hsz2.out (by omega)).mono ?_
                rintro e w17 ⟨v17, rfl, ⟨R17, d17, rfl, hr17, _⟩, hb17⟩
                have b18 := Blk.new w17 24 #[.int .i64 U, .int .i64 K, .slice R17 (U * K) d17]
                have hb18 : Bl w16 (w17.alloc (.cells #[.int .i64 U, .int .i64 K, .slice R17 (U * K) d17] 24)) := hb17.alloc _
                have hr18 := hr17.bl ((Bl.refl w17).alloc (.cells #[.int .i64 U, .int .i64 K, .slice R17 (U * K) d17] 24))
                have Hr18 := Lib.hid hr18; have Hb18 := Lib.hid hb18
                clear hr17 hr18 hb18 k16
                go_upto_region 27 with fail
                generalize hw18 : w17.alloc (.cells #[.int .i64 U, .int .i64 K, .slice R17 (U * K) d17] 24) = w18 at b18 Hr18 Hb18 ⊢
                clear hw18 hb17
                have k18 := b18.all3
                go_wp2_with fail
                refine (lean_good U K _ _ (-n) _ ⟨_, _, rfl, Hr18.out⟩ Hsz2.out (by omega)).mono ?_
                rintro e w19 ⟨v19, rfl, ⟨R19, d19, rfl, hr19, _⟩, hb19⟩
                have hback := margins_back (bs := bs) (U := U) (V := V) (K := K) HK.out (by omega) ⟨i5, i6⟩
                rw [hback] at hr19
                have b20 := Blk.new w19 24 #[.int .i64 U, .int .i64 K, .slice R19 (U * K) d19]
                have hb20 : Bl w16 (w19.alloc (.cells #[.int .i64 U, .int .i64 K, .slice R19 (U * K) d19] 24)) := (Hb18.out.trans hb19).alloc _
                have hr20 := hr19.bl ((Bl.refl w19).alloc (.cells #[.int .i64 U, .int .i64 K, .slice R19 (U * K) d19] 24))
                have Hr20 := Lib.hid hr20; have Hb20 := Lib.hid hb20; have B20 := Lib.hid b20
                clear hr19 hr20 hb20 b20 k18 hback
                go_upto_region 28 with fail
                generalize hw20 : w19.alloc (.cells #[.int .i64 U, .int .i64 K, .slice R19 (U * K) d19] 24) = w20 at B20 Hr20 Hb20 ⊢
                clear hw20 hb19
                have k20 := B20.out.all3
                have k21 := (b16.bl Hb20.out).all3
                have hUK : U * K ≤ 1099511627776 := by
                  have h1 : U * K ≤ 100 * 80 := Nat.mul_le_mul (by omega) (by have := HK.out; omega)
                  omega
                go_wp2_with fail
                refine (same_any U K _ _ _ _ ⟨_, _, rfl, Hr16.out.bl Hb20.out⟩ ⟨_, _, rfl, Hr20.out⟩ hUK).mono ?_
                rintro e w21 ⟨rfl, hb21⟩
                go_wp2_with fail
                go_ret
                exact ⟨rfl, ((w1b.trans hc16).trans Hb20.out).trans hb21⟩
              · go_wp2_with fail
                go_ret
                exact ⟨rfl, w1b.trans hc12⟩
            · go_wp2_with fail
              go_ret
              exact ⟨rfl, w1b.trans hc12⟩
          · have hq : (pageErr bW bH bn != 0) = true := by simp [hp]
            clear hp
            go_wp2_with fail
            go_ret
            exact ⟨rfl, w1b.trans hc12⟩
  · rcases (show ww < 1 ∨ (¬ ww < 1 ∧ 200 < ww) ∨ (¬ ww < 1 ∧ ¬ 200 < ww ∧ rn < 1) ∨ (¬ ww < 1 ∧ ¬ 200 < ww ∧ ¬ rn < 1 ∧ 40 < rn) ∨ (¬ ww < 1 ∧ ¬ 200 < ww ∧ ¬ rn < 1 ∧ ¬ 40 < rn ∧ n < -64) ∨ (¬ ww < 1 ∧ ¬ 200 < ww ∧ ¬ rn < 1 ∧ ¬ 40 < rn ∧ ¬ n < -64 ∧ 64 < n) by omega) with
      c1 | ⟨c1, c2⟩ | ⟨c1, c2, c3⟩ | ⟨c1, c2, c3, c4⟩ | ⟨c1, c2, c3, c4, c5⟩ | ⟨c1, c2, c3, c4, c5, c6⟩
    all_goals
      clear hin
      go_enter Tryd.func4, Tryd.ntmps4
      go_wp2_with fail
      refine (landed_any _).mono ?_
      rintro e w2 ⟨rfl, hb2⟩
      go_wp2_with fail
      go_ret
      exact ⟨rfl, w1b.trans hb2⟩

end Go.Proofs.YtkhajhcfplicpaaDoor
