/- page.Means; slices.Equal of numbers; blank pages. -/
import Derived.Test.YtccgncjncklheaaMeans
namespace Go.Proofs.Ytccgncjncklheaa
open Go.RowKit

/-- A byte list reads as bytes. -/
def Bytes (zs : List Int) : Prop := ∀ z ∈ zs, 0 ≤ z ∧ z ≤ 255
def valOf (zs : List Int) (i : Nat) : Int := zs.getD i 0
theorem Bytes.at {zs : List Int} (h : Bytes zs) (i : Nat) : 0 ≤ valOf zs i ∧ valOf zs i ≤ 255 := by
  unfold valOf
  rcases Nat.lt_or_ge i zs.length with hl | hl
  · have := h zs[i] (List.getElem_mem hl)
    simpa [List.getD, hl] using this
  · simp [List.getD, List.getElem?_eq_none hl]

set_option maxRecDepth 100000 in
set_option maxHeartbeats 400000 in
theorem means1_any (gb : Nat) (W H : Int) (A : Option Addr) (n c : Nat) (zs : List Int) (i : Nat) (w : World) (hblk : Blk w gb 24 #[.int .i64 W, .int .i64 H, .slice A n c])
    (hr : Reads w 1 A n (zs.map (.int .u8))) (hz : Bytes zs) (hi : i < n) :
    Calls Try.prog 95 #[.int .i64 i, .pointer (some ⟨gb, 0, none⟩)] w fun e w' => e = .returned (.int .i64 (valOf zs i)) ∧ Bl w w' := by
  have kb := hblk.all3
  have hb := hz.at i
  obtain ⟨ad, u, rfl, hu, hc⟩ := hr.at_ hi
  have hl : i < zs.length := by have := hr.1; simp at this; omega
  have hu' : u = .int .u8 (valOf zs i) := by simpa [valOf, hl] using hu.symm
  subst hu'
  generalize valOf zs i = z at *
  have hi' : (i : Int) < (n : Int) := by omega
  clear hu hz hr hl
  go_enter Try.func95, Try.ntmps95
  go_wp2
  go_ret
  exact ⟨rfl, Bl.refl _⟩

def meansErr (W H : Int) (n : Nat) (r : Int) : Int := if pageErr W H n = 0 then (if inB r 0 200 then 0 else 3) else pageErr W H n
theorem meansErr_first (W H : Int) (n : Nat) (r : Int) : firstNZ [pageErr W H n, whenI (!inB r 0 200) 3] = meansErr W H n r := by
  unfold meansErr
  by_cases h : pageErr W H n = 0
  · rw [if_pos h, h]
    cases inB r 0 200 <;> simp [firstNZ, whenI]
  · rw [if_neg h]; simp [firstNZ, h]

set_option maxRecDepth 100000 in
set_option maxHeartbeats 400000 in
theorem means_bad (W H : Int) (A : Option Addr) (n c : Nat) (r : Int) (w : World) (h : meansErr W H n r ≠ 0) :
    Calls Try.prog 11 #[.agg #[.int .i64 W, .int .i64 H, .slice A n c], .int .i64 r] w fun e w' => e = .returned (.tuple #[.slice none 0 0, .int .i64 (meansErr W H n r)]) ∧ Bl w w' := by
  by_cases hp : pageErr W H n = 0
  · have hm : meansErr W H n r = 3 := by
      unfold meansErr at h ⊢
      rw [if_pos hp] at h ⊢
      cases hb : inB r 0 200
      · simp
      · simp [hb] at h
    have hb : r < 0 ∨ 200 < r := by
      unfold meansErr at h
      rw [if_pos hp] at h
      cases hb : inB r 0 200
      · exact inB_false.1 hb
      · simp [hb] at h
    have Hm := Lib.hid hm
    clear h hm
    rcases hb with hb | hb
    all_goals
      go_enter Try.func11, Try.ntmps11
      go_wp2_with (go_at_call 93; refine (checkGray_any _ _ _ _ _ _).mono ?_; rintro e w1 ⟨rfl, hb1⟩)
      go_ret2
      exact ⟨by rw [Hm.out]; rfl, ((Bl.refl _).alloc _).trans hb1⟩
  · have hm : meansErr W H n r = pageErr W H n := by unfold meansErr; rw [if_neg hp]
    have hq : (pageErr W H n != 0) = true := by simp [hp]
    have Hm := Lib.hid hm
    clear h hm hp
    go_enter Try.func11, Try.ntmps11
    go_wp2_with (go_at_call 93; refine (checkGray_any _ _ _ _ _ _).mono ?_; rintro e w1 ⟨rfl, hb1⟩)
    go_ret2
    exact ⟨by rw [Hm.out]; rfl, ((Bl.refl _).alloc _).trans hb1⟩

theorem boxSum_succ (v : Nat → Int) (W x y l h : Nat) : boxSum v W x y l (h + 1) = boxSum v W x y l h + (rowSum v W (y + h) (x + l) - rowSum v W (y + h) x) := by
  unfold boxSum
  rw [← Nat.add_assoc]
  simp only [sat]
  omega
theorem rowDiff_bd {v : Nat → Int} (hv : ∀ i, 0 ≤ v i ∧ v i ≤ 255) (W y x : Nat) : ∀ l, 0 ≤ rowSum v W y (x + l) - rowSum v W y x ∧ rowSum v W y (x + l) - rowSum v W y x ≤ 255 * l
  | 0 => by simp
  | l + 1 => by
    have := rowDiff_bd hv W y x l
    have := hv (y * W + (x + l))
    rw [← Nat.add_assoc]
    simp only [rowSum]
    omega
theorem boxSum_bd {v : Nat → Int} (hv : ∀ i, 0 ≤ v i ∧ v i ≤ 255) (W x y l : Nat) (hl : l ≤ 4000) : ∀ h, 0 ≤ boxSum v W x y l h ∧ boxSum v W x y l h ≤ 1020000 * h
  | 0 => by simp [boxSum]; omega
  | h + 1 => by
    have := boxSum_bd hv W x y l hl h
    have := rowDiff_bd hv W (y + h) x l
    rw [boxSum_succ]
    omega

/-- The mean around place number i. -/
def meanAt (zs : List Int) (W H r i : Nat) : Int :=
  roundI (boxSum (valOf zs) W (from_ (i % W) r) (from_ (i / W) r) (long_ (i % W) r W) (long_ (i / W) r H)) ((long_ (i % W) r W : Int) * (long_ (i / W) r H : Int))

def MeansInv (w : World) (B : Nat) (zs : List Int) (W H r : Nat) (wr : World) (m : Nat) : Prop :=
  Bl w wr ∧ ∃ cs : Array Value, Blk wr B 3 cs ∧ cs.size = W * H ∧ ∀ k, k < m → cs[k]? = some (.int .i64 (meanAt zs W H r k))

set_option maxRecDepth 100000 in
set_option maxHeartbeats 1000000 in
theorem means_ok (W H : Nat) (A : Option Addr) (c : Nat) (zs : List Int) (r : Nat) (w : World) (hr : Reads w 1 A (W * H) (zs.map (.int .u8))) (hz : Bytes zs) (hs : sizeErr W H = 0) (hrr : r ≤ 200) :
    Calls Try.prog 11 #[.agg #[.int .i64 W, .int .i64 H, .slice A (W * H) c], .int .i64 r] w fun e w' =>
      ∃ g, e = .returned (.tuple #[.slice (some ⟨g, 0, none⟩) (W * H) (W * H), .int .i64 0]) ∧ Blk w' g 3 (((List.range (W * H)).map fun i => Value.int .i64 (meanAt zs W H r i)).toArray) ∧ Bl w w' := by
  have hp : pageErr W H (W * H) = 0 := by unfold pageErr; rw [if_pos hs, if_pos (by simp)]
  have hq : (pageErr W H (W * H) != 0) = false := by simp [hp]
  have hz' := sizeErr_zero hs
  have hWH : (W : Int) * (H : Int) = ((W * H : Nat) : Int) := by simp
  have h1 : (0:Int) ≤ (W:Int) * (H:Int) := by omega
  have h2 : (W:Int) * (H:Int) ≤ 1048576 := by omega
  have hN : W * H ≤ 1048576 := by omega
  have hmk := run_make_row' (P := Try.prog) 25 3 (.int .i64 0) 8 Try.underlying25 info_int rfl .i64 .i64 (W * H) (by omega) (by omega)
  rw [← hWH] at hmk
  have Hp := Lib.hid hp; have HWH := Lib.hid hWH; have HS := Lib.hid hs
  clear hp hWH hs
  go_enter Try.func11, Try.ntmps11
  go_wp2_with fail
  refine (checkGray_any _ _ _ _ _ _).mono ?_
  rintro e w1 ⟨rfl, hb1⟩
  obtain ⟨hc1, hf1⟩ := hb1.rule
  have hblk1 := (Blk.new w 24 #[.int .i64 W, .int .i64 H, .slice A (W * H) c]).bl hb1
  have hr1 := (hr.bl ((Bl.refl _).alloc _)).bl hb1
  go_wp2_with fail
  refine (sumsOf_any W H (valOf zs) hz.at 95 #[.pointer (some ⟨w.heap.size, 0, none⟩)] _ (enters Try.func95 (by kernel_rfl) rfl) (by omega) (by omega)
    (fun wx i hbx hi => means1_any _ _ _ A (W * H) c zs i wx (hblk1.bl hbx) (hr1.bl hbx) hz hi)).mono ?_
  rintro e w2 ⟨p, g, rfl, hs2, hb2⟩
  obtain ⟨hc2, hf2⟩ := hb2.rule
  go_wp2_with fail
  have hs0 : MeansInv w2 w2.heap.size zs W H r (w2.alloc (.cells (madeCells #[.int .i64 0] (W * H)) 3)) 0 :=
    ⟨(Bl.refl _).alloc _, _, Blk.new _ _ _, size_madeCells _ _, fun k hk => absurd hk (by omega)⟩
  have Hs0 := Lib.hid hs0; clear hs0
  go_loopw [35] (fun u wr => ∃ i : Nat, i ≤ W * H ∧ u = .int .i64 i ∧ MeansInv w2 w2.heap.size zs W H r wr i) (fun u _ => W * H - (intOf u).toNat)
  case atStart => exact ⟨0, Nat.zero_le _, rfl, Hs0.out⟩
  case round =>
    obtain ⟨i, hi, rfl, hbr, cs, hc, hsz, hcs⟩ := hrel
    have kg := ((hblk1.bl hb2).bl hbr).all3
    by_cases hlt : i < W * H
    · have hiN : (i : Int) < (W : Int) * (H : Int) := by have := HWH.out; omega
      have kc : wr.cell? ⟨w2.heap.size, i, none⟩ = some (cs[i]'(by omega)) := by rw [hc.cell]; simp
      have kf := hc.frozen i
      generalize cs[i]'(by omega) = ci at kc
      have hW0 : 1 ≤ W := by omega
      have hx : i % W < W := Nat.mod_lt _ (by omega)
      have hy : i / W < H := Nat.div_lt_of_lt_mul hlt
      obtain ⟨x, hxx⟩ : ∃ x, x = i % W := ⟨_, rfl⟩
      obtain ⟨y, hyy⟩ : ∃ y, y = i / W := ⟨_, rfl⟩
      have ex : (i : Int) % (W : Int) = (x : Int) := by rw [hxx]; simp
      have ey : (i : Int) / (W : Int) = (y : Int) := by rw [hyy]; simp
      rw [← hxx] at hx
      rw [← hyy] at hy
      have lx := long_pos (r := r) hx
      have ly := long_pos (r := r) hy
      have hW4 : (W : Int) ≤ 4000 := by omega
      have hWn : ¬ (W = 0) := by omega
      have bb : 0 ≤ boxSum (valOf zs) W (from_ x r) (from_ y r) (long_ x r W) (long_ y r H) ∧ boxSum (valOf zs) W (from_ x r) (from_ y r) (long_ x r W) (long_ y r H) ≤ 100000000000 := by
        have := boxSum_bd hz.at W (from_ x r) (from_ y r) (long_ x r W) (by omega) (long_ y r H)
        omega
      have bl : (1 : Int) ≤ (long_ x r W : Int) * (long_ y r H : Int) ∧ (long_ x r W : Int) * (long_ y r H : Int) ≤ 16000000 := by
        have h1 := Nat.mul_le_mul (show long_ x r W ≤ 4000 by omega) (show long_ y r H ≤ 4000 by omega)
        have h2 := Nat.mul_le_mul (show 1 ≤ long_ x r W by omega) (show 1 ≤ long_ y r H by omega)
        have h3 := Int.natCast_mul (long_ x r W) (long_ y r H)
        omega
      have hm : meanAt zs W H r i = roundI (boxSum (valOf zs) W (from_ x r) (from_ y r) (long_ x r W) (long_ y r H)) ((long_ x r W : Int) * (long_ y r H : Int)) := by
        unfold meanAt; rw [← hxx, ← hyy]
      have Hm := Lib.hid hm; have Hxx := Lib.hid hxx; have Hyy := Lib.hid hyy; have Hcs := Lib.hid hcs; have Hz := Lib.hid hz
      clear hm hxx hyy hcs hz lx ly
      go_wp2_with fail
      refine wp_region_flow [(true, 0), (true, 1), (true, 2), (true, 3), (true, 4), (true, 5), (true, 6), (true, 7), (true, 8), (true, 9), (false, 10), (true, 11), (true, 12), (true, 13), (true, 14), (true, 15)] (fun _ => false) (by kernel_rfl) (by kernel_rfl) (by kernel_rfl) (by kernel_rfl) ?_
      iterate 2
        apply Flow.mv _ rfl
        · intro K' hK'
          simp only [Act.put, Act.eval, List.setIfInBounds_toArray, List.set_cons_zero, List.set_cons_succ, arr_getD, List.getD_cons_zero, List.getD_cons_succ]
          exact hK'
      iterate 1
        apply Flow.calm2 _ _ rfl rfl
        · intro w' hb' K' hK'
          obtain ⟨hc', hf'⟩ := hb'.rule
          go_simp
          try go_ints
          exact hK'
        · intro K' hK'
          simp only [Act.put, List.setIfInBounds_toArray, List.set_cons_zero, List.set_cons_succ]
          exact hK'
      iterate 1
        apply Flow.calm2 _ _ rfl rfl
        · intro w' hb' K' hK'
          obtain ⟨hc', hf'⟩ := hb'.rule
          go_simp
          try go_ints
          exact hK'
        · intro K' hK'
          simp only [Act.put, List.setIfInBounds_toArray, List.set_cons_zero, List.set_cons_succ]
          exact hK'
      iterate 1
        apply Flow.calm2 _ _ rfl rfl
        · intro w' hb' K' hK'
          obtain ⟨hc', hf'⟩ := hb'.rule
          go_simp
          try go_ints
          exact hK'
        · intro K' hK'
          simp only [Act.put, List.setIfInBounds_toArray, List.set_cons_zero, List.set_cons_succ]
          exact hK'
      iterate 1
        apply Flow.mv _ rfl
        · intro K' hK'
          simp only [Act.put, Act.eval, List.setIfInBounds_toArray, List.set_cons_zero, List.set_cons_succ, arr_getD, List.getD_cons_zero, List.getD_cons_succ]
          exact hK'
      iterate 1
        apply Flow.calm2 _ _ rfl rfl
        · intro w' hb' K' hK'
          obtain ⟨hc', hf'⟩ := hb'.rule
          go_simp
          try go_ints
          exact hK'
        · intro K' hK'
          simp only [Act.put, List.setIfInBounds_toArray, List.set_cons_zero, List.set_cons_succ]
          exact hK'
      iterate 1
        apply Flow.calm2 _ _ rfl rfl
        · intro w' hb' K' hK'
          obtain ⟨hc', hf'⟩ := hb'.rule
          go_simp
          try go_ints
          exact hK'
        · intro K' hK'
          simp only [Act.put, List.setIfInBounds_toArray, List.set_cons_zero, List.set_cons_succ]
          exact hK'
      iterate 1
        apply Flow.calm2 _ _ rfl rfl
        · intro w' hb' K' hK'
          obtain ⟨hc', hf'⟩ := hb'.rule
          go_simp
          try go_ints
          exact hK'
        · intro K' hK'
          simp only [Act.put, List.setIfInBounds_toArray, List.set_cons_zero, List.set_cons_succ]
          exact hK'
      iterate 1
        apply Flow.mv _ rfl
        · intro K' hK'
          simp only [Act.put, Act.eval, List.setIfInBounds_toArray, List.set_cons_zero, List.set_cons_succ, arr_getD, List.getD_cons_zero, List.getD_cons_succ]
          exact hK'
      apply Flow.move rfl
      go_wp2_with fail
      refine (around_any p g W H _ Hz.out.at x y r _ (hs2.bl ?_) (by omega) (by omega) hx hy hrr).mono ?_
      · exact hbr.trans ((Bl.refl _).drew)
      rintro e w3 ⟨rfl, HB1⟩
      obtain ⟨hc3, hf3⟩ := HB1.rule
      go_wp2_with fail
      refine ⟨fun _ => (by first | exact HB1 | exact Bl.refl _), ?_⟩
      iterate 1
        apply Flow.mv _ rfl
        · intro K' hK'
          simp only [Act.put, Act.eval, List.setIfInBounds_toArray, List.set_cons_zero, List.set_cons_succ, arr_getD, List.getD_cons_zero, List.getD_cons_succ]
          exact hK'
      iterate 2
        apply Flow.calm2 _ _ rfl rfl
        · intro w' hb' K' hK'
          obtain ⟨hc', hf'⟩ := hb'.rule
          go_simp
          try go_ints
          exact hK'
        · intro K' hK'
          simp only [Act.put, List.setIfInBounds_toArray, List.set_cons_zero, List.set_cons_succ]
          exact hK'
      iterate 2
        apply Flow.asg _ rfl
        · intro K' hK'
          simp only [Act.put, Act.eval, List.setIfInBounds_toArray, List.set_cons_zero, List.set_cons_succ, arr_getD, List.getD_cons_zero, List.getD_cons_succ]
          exact hK'
      refine Flow.done ?_
      go_wp2_with (go_at_call 97; refine (rounded_any _ _ _ (by omega) (by omega) (by omega) (by omega)).mono ?_; rintro e w' ⟨rfl, rfl⟩)
      have hst : MeansInv w2 w2.heap.size zs W H r (w3.setCell ⟨w2.heap.size, i, none⟩ (.int .i64 (meanAt zs W H r i))) (i + 1) := by
        have hb3 : Bl wr w3 := ((Bl.refl _).drew).trans HB1
        refine ⟨(hbr.trans hb3).setCell (by simp) _, _, (hc.bl hb3).set_ i _, by simpa using hsz, fun k hk => ?_⟩
        by_cases e : i = k
        · subst e; simp [hsz, hlt]
        · rw [Array.getElem?_setIfInBounds_ne e]; exact Hcs.out k (by omega)
      rw [Hm.out] at hst
      exact ⟨⟨i + 1, hlt, by go_num, hst⟩, by simp [intOf]; omega⟩
    · go_wp2_with fail
      go_ret2
      obtain rfl : i = W * H := by omega
      refine ⟨_, rfl, ?_, ((((Bl.refl w).alloc _).trans hb1).trans hb2).trans hbr⟩
      have e : cs = ((List.range (W * H)).map fun i => Value.int .i64 (meanAt zs W H r i)).toArray := by
        apply Array.ext_getElem?
        intro k
        rcases Nat.lt_or_ge k (W * H) with h | h
        · rw [hcs k h]; simp [h]
        · rw [Array.getElem?_eq_none (by omega), Array.getElem?_eq_none (by simpa using h)]
      rw [← e]; exact hc

end Go.Proofs.Ytccgncjncklheaa
