/- The law on means: whatever page and radius, the answer is true. -/
import Derived.Test.YtldmofdidgibhaaMeans2
import Derived.Test.YtldmofdidgibhaaLib1
import Derived.Test.YtldmofdidgibhaaOwn
namespace Go.Proofs.Ytldmofdidgibhaa
open Go.RowKit

theorem own_nil (w : World) (B : Nat) (e : TypeId) (size : Nat) : w.ownsRow B e size (.slice none 0 0) 0 [] := World.ownsRow_nil w B e size

set_option maxRecDepth 100000 in
set_option maxHeartbeats 1000000 in
theorem lawMeans_bad (W H : Int) (A : Option Addr) (n c : Nat) (r : Int) (w : World) (h : meansErr W H n r ≠ 0) :
    Calls Try.prog 3 #[.agg #[.int .i64 W, .int .i64 H, .slice A n c], .int .i64 r] w fun e w' => e = .returned (.bool true) ∧ Bl w w' := by
  have hf := meansErr_first W H n r
  have hq : (meansErr W H n r != 0) = true := by simp [h]
  have Hh := Lib.hid h; clear h
  go_enter Try.func3, Try.ntmps3
  go_wp2_with fail
  refine (means_bad _ _ _ _ _ _ _ Hh.out).mono ?_
  rintro e w1 ⟨rfl, hb1⟩
  obtain ⟨hc1, hf1⟩ := hb1.rule
  go_wp2_with fail
  refine (grayError_any _ _ _ _ _ _).mono ?_
  rintro e w2 ⟨rfl, hb2⟩
  obtain ⟨hc2, hf2⟩ := hb2.rule
  go_wp2_with (first | (go_at_call 15; refine (in_any _ _ _ _).mono ?_; rintro e w' ⟨rfl, rfl⟩) | (go_at_call 14; refine (when_any _ _ _).mono ?_; rintro e w' ⟨rfl, rfl⟩) | (go_at_call 12; refine (first2_any _ _ _ _ (Blk.new _ _ _)).mono ?_; rintro e w' ⟨rfl, rfl⟩))
  refine (pages_any _).mono ?_
  rintro e w3 ⟨rfl, hb3⟩
  go_wp2_with fail
  refine (pages_any _).mono ?_
  rintro e w4 ⟨rfl, hb4⟩
  go_wp2_with fail
  go_ret
  exact ⟨rfl, ((((((Bl.refl _).alloc _).trans hb1).trans hb2).alloc _).trans hb3).trans hb4⟩

/-- The sum and the number so far, in the law's own loops. -/
def lawSum (v : Nat → Int) (W lx ly nx j i : Nat) : Int := boxSum v W lx ly nx (j - ly) + (rowSum v W j i - rowSum v W j lx)

def meanList (zs : List Int) (W H r m : Nat) : List Int := (List.range m).map (meanAt zs W H r)
theorem meanList_succ (zs : List Int) (W H r m : Nat) : (meanList zs W H r (m + 1)).map (Value.int .i64) = (meanList zs W H r m).map (Value.int .i64) ++ [Value.int .i64 (meanAt zs W H r m)] := by
  simp [meanList, List.range_succ]
theorem lawSum_step (v : Nat → Int) (W lx ly nx j i : Nat) : lawSum v W lx ly nx j i + v (j * W + i) = lawSum v W lx ly nx j (i + 1) := by
  unfold lawSum; simp only [rowSum]; omega
theorem lawSum_row (v : Nat → Int) (W lx ly nx j : Nat) (hj : ly ≤ j) : lawSum v W lx ly nx j (lx + nx) = lawSum v W lx ly nx (j + 1) lx := by
  unfold lawSum
  rw [show j + 1 - ly = (j - ly) + 1 by omega, boxSum_succ, show ly + (j - ly) = j by omega]
  omega
theorem lawSum_bd {v : Nat → Int} (hv : ∀ i, 0 ≤ v i ∧ v i ≤ 255) (W lx ly nx j i : Nat) (hn : nx ≤ 4000) (hi : lx ≤ i) (hi2 : i ≤ 4000) (hj : j ≤ 4000) : 0 ≤ lawSum v W lx ly nx j i ∧ lawSum v W lx ly nx j i ≤ 5000000000 := by
  have h1 := boxSum_bd hv W lx ly nx hn (j - ly)
  have h2 := rowDiff_bd hv W j lx (i - lx)
  rw [show lx + (i - lx) = i by omega] at h2
  unfold lawSum
  omega

set_option maxRecDepth 100000 in
set_option maxHeartbeats 2000000 in
theorem lawMeans_ok (W H : Nat) (A : Option Addr) (c : Nat) (zs : List Int) (r : Nat) (w : World) (hr : Reads w 1 A (W * H) (zs.map (.int .u8))) (hz : Bytes zs) (hs : sizeErr W H = 0) (hrr : r ≤ 200) :
    Calls Try.prog 3 #[.agg #[.int .i64 W, .int .i64 H, .slice A (W * H) c], .int .i64 r] w fun e w' => e = .returned (.bool true) ∧ Bl w w' := by
  have hp : pageErr W H (W * H) = 0 := by unfold pageErr; rw [if_pos hs, if_pos (by simp)]
  have hin : inB r 0 200 = true := inB_true.2 (by omega)
  have hf : firstNZ [0, whenI false 3] = 0 := rfl
  have hz' := sizeErr_zero hs
  have hWH : (W : Int) * (H : Int) = ((W * H : Nat) : Int) := by simp
  have h1 : (0:Int) ≤ (W:Int) * (H:Int) := by omega
  have h2 : (W:Int) * (H:Int) ≤ 1048576 := by omega
  have hpos : 0 < W * H := Nat.mul_pos (by omega) (by omega)
  obtain ⟨ad, rfl, hcell⟩ := hr.2 hpos
  have hel : ∀ k, k < W * H → w.cell? (ad.add k) = some (.int .u8 (valOf zs k)) := by
    intro k hk
    have hl : zs.length = W * H := by have := hr.1; simpa using this
    exact hcell k _ (by simp [valOf, List.getD, hl, hk])
  have Hel := Lib.hid hel
  have HWH := Lib.hid hWH; have HS := Lib.hid hs; have Hz := Lib.hid hz
  clear hWH hs hz hcell hel
  go_enter Try.func3, Try.ntmps3
  go_wp2_with fail
  refine (means_ok W H (some ad) c zs r _ (hr.bl ((Bl.refl _).alloc _)) Hz.out HS.out hrr).mono ?_
  rintro e w1 ⟨g, rfl, hg1, hb1⟩
  obtain ⟨hc1, hf1⟩ := hb1.rule
  have hblk1 := (Blk.new w 24 #[.int .i64 W, .int .i64 H, .slice (some ad) (W * H) c]).bl hb1
  have hr1 := (hr.bl ((Bl.refl _).alloc _)).bl hb1
  go_wp2_with fail
  refine (grayError_any _ _ _ _ _ _).mono ?_
  rintro e w2 ⟨rfl, hb2⟩
  have hblk2 := hblk1.bl hb2
  have kb2 := hblk2.all3
  go_wp2_with (first | (go_at_call 15; refine (in_any _ _ _ _).mono ?_; rintro e w' ⟨rfl, rfl⟩) | (go_at_call 14; refine (when_any _ _ _).mono ?_; rintro e w' ⟨rfl, rfl⟩) | (go_at_call 12; refine (first2_any _ _ _ _ (Blk.new _ _ _)).mono ?_; rintro e w' ⟨rfl, rfl⟩))
  refine (pages_any _).mono ?_
  rintro e w3 ⟨rfl, hb3⟩
  have hblk3 := (hblk2.alloc _).bl hb3
  have kb3 := hblk3.all3
  have hb13 := (hb2.alloc _).trans hb3
  have hr3 := hr1.bl hb13
  have hg3 := hg1.bl hb13
  by_cases hbig : W * H ≤ 400
  · have hbg : ¬ ((400 : Int) < (W:Int) * (H:Int)) := by have := HWH.out; omega
    go_wp2_with fail
    go_loopw [8, 54] (fun l u wr => ∃ y : Nat, y ≤ H ∧ u = .int .i64 y ∧ Bl w3 wr ∧ wr.ownsRow w3.heap.size 3 1 l (y * W) ((meanList zs W H r (y * W)).map (.int .i64))) (fun _ u _ => H - (intOf u).toNat)
    case atStart => exact ⟨0, Nat.zero_le _, rfl, Bl.refl _, by rw [Nat.zero_mul]; exact own_nil _ _ _ _⟩
    case round =>
      obtain ⟨y, hy, rfl, hbr, hown⟩ := hrel
      have kbr := (hblk3.bl hbr).all3
      by_cases hlt : y < H
      · go_wp2_with fail
        go_loopw [8, 59] (fun l u wr => ∃ x : Nat, x ≤ W ∧ u = .int .i64 x ∧ Bl w3 wr ∧ wr.ownsRow w3.heap.size 3 1 l (y * W + x) ((meanList zs W H r (y * W + x)).map (.int .i64))) (fun _ u _ => W - (intOf u).toNat)
        case atStart => exact ⟨0, Nat.zero_le _, rfl, hbr, hown⟩
        case round =>
          clear hown kbr hbr
          rename_i wo _ _ _
          obtain ⟨x, hx, rfl, hbr, hown⟩ := hrel
          have kbr := (hblk3.bl hbr).all3
          by_cases hlt2 : x < W
          · have m1 := mul_step (a := W) hlt
            have hil : y * W + x < W * H := by rw [Nat.mul_comm W H]; omega
            have ex : (y * W + x) % W = x := by rw [Nat.mul_comm, Nat.mul_add_mod, Nat.mod_eq_of_lt hlt2]
            have ey : (y * W + x) / W = y := by rw [Nat.mul_comm, Nat.mul_add_div (by omega), Nat.div_eq_of_lt hlt2, Nat.add_zero]
            have hm : meanAt zs W H r (y * W + x) = roundI (boxSum (valOf zs) W (from_ x r) (from_ y r) (long_ x r W) (long_ y r H)) ((long_ x r W : Int) * (long_ y r H : Int)) := by
              unfold meanAt; rw [ex, ey]
            clear ex ey
            obtain ⟨lx, hlx⟩ : ∃ a, a = from_ x r := ⟨_, rfl⟩
            obtain ⟨ly, hly⟩ : ∃ a, a = from_ y r := ⟨_, rfl⟩
            obtain ⟨nx, hnx⟩ : ∃ a, a = long_ x r W := ⟨_, rfl⟩
            obtain ⟨ny, hny⟩ : ∃ a, a = long_ y r H := ⟨_, rfl⟩
            rw [← hlx, ← hly, ← hnx, ← hny] at hm
            unfold from_ at hlx hly
            unfold long_ at hnx hny
            have n1 : (if (0 : Int) < (x : Int) - (r : Int) then (x : Int) - (r : Int) else 0) = (lx : Int) := by split <;> omega
            have n1' : (if r < x then (x : Int) - (r : Int) else 0) = (lx : Int) := by split <;> omega
            have n2 : (if (0 : Int) < (y : Int) - (r : Int) then (y : Int) - (r : Int) else 0) = (ly : Int) := by split <;> omega
            have n2' : (if r < y then (y : Int) - (r : Int) else 0) = (ly : Int) := by split <;> omega
            have n3 : (if (x : Int) + (r : Int) < (W : Int) - 1 then (x : Int) + (r : Int) else (W : Int) - 1) = (lx : Int) + (nx : Int) - 1 := by split <;> omega
            have n4 : (if (y : Int) + (r : Int) < (H : Int) - 1 then (y : Int) + (r : Int) else (H : Int) - 1) = (ly : Int) + (ny : Int) - 1 := by split <;> omega
            have bx : lx + nx ≤ W ∧ 1 ≤ nx := by omega
            have by_ : ly + ny ≤ H ∧ 1 ≤ ny := by omega
            have hW4 : W ≤ 4000 := by omega
            have hH4 : H ≤ 4000 := by omega
            have Hm := Lib.hid hm
            clear hlx hly hnx hny hm
            go_wp2_with fail
            go_loop [11, 12, 13] (fun s m u => ∃ (j : Nat) (mm : Nat), ly ≤ j ∧ j ≤ ly + ny ∧ u = .int .i64 j ∧ s = .int .i64 (lawSum (valOf zs) W lx ly nx j lx) ∧ m = .int .i64 mm ∧ Hid (mm = (j - ly) * nx)) (fun _ _ u => ly + ny - (intOf u).toNat)
            case atStart => exact ⟨ly, 0, Nat.le_refl _, by omega, rfl, by simp [lawSum, boxSum]; omega, rfl, by unfold Hid; simp⟩
            case round =>
              obtain ⟨j, mm, hj1, hj2, rfl, rfl, rfl, hmm⟩ := hrel
              by_cases hj : j < ly + ny
              · go_wp2_with fail
                go_loop [11, 12, 14] (fun s m u => ∃ (i : Nat) (nn : Nat), lx ≤ i ∧ i ≤ lx + nx ∧ u = .int .i64 i ∧ s = .int .i64 (lawSum (valOf zs) W lx ly nx j i) ∧ m = .int .i64 nn ∧ Hid (nn = mm + (i - lx))) (fun _ _ u => lx + nx - (intOf u).toNat)
                case atStart => exact ⟨lx, mm, Nat.le_refl _, by omega, rfl, rfl, rfl, by unfold Hid; omega⟩
                case round =>
                  obtain ⟨i, nn, hi1, hi2, rfl, rfl, rfl, hnn⟩ := hrel
                  by_cases hi : i < lx + nx
                  · have m2 := mul_step (a := W) (show j < H by omega)
                    obtain ⟨k, hk⟩ : ∃ k, k = j * W + i := ⟨_, rfl⟩
                    have hkl : k < W * H := by rw [Nat.mul_comm W H]; omega
                    have ekk : (j : Int) * (W : Int) + (i : Int) = (k : Int) := by rw [hk]; simp
                    have q1 : (0 : Int) ≤ (j : Int) * (W : Int) ∧ (j : Int) * (W : Int) ≤ 16000000 := by
                      have := Int.natCast_mul j W; have := HWH.out; rw [Nat.mul_comm W H] at this; omega
                    have q2 : (k : Int) < (W : Int) * (H : Int) := by have := HWH.out; omega
                    have kel : wr.cell? (ad.add k) = some (.int .u8 (valOf zs k)) := hbr.at (hb13.at (hb1.at (((Bl.refl _).alloc _).at (Hel.out k hkl))))
                    have bv := Hz.out.at k
                    have bs := lawSum_bd Hz.out.at W lx ly nx j i (by omega) hi1 (by omega) (by omega)
                    have hst := lawSum_step (valOf zs) W lx ly nx j i
                    rw [← hk] at hst
                    have bn : nn ≤ 16008000 := by
                      have := hnn.out; have := hmm.out
                      have := Nat.mul_le_mul (show j - ly ≤ 4000 by omega) (show nx ≤ 4000 by omega)
                      omega
                    have Hk := Lib.hid hk; have Hst := Lib.hid hst
                    clear hk hst m2
                    go_wp2_with fail
                    exact ⟨⟨i + 1, nn + 1, by omega, by omega, by go_num, by rw [Hst.out], by go_num, by have := hnn.out; unfold Hid; omega⟩, by simp [intOf]; omega⟩
                  · go_wp2_with fail
                    obtain rfl : i = lx + nx := by omega
                    refine ⟨⟨j + 1, nn, by omega, by omega, by go_num, by rw [lawSum_row _ _ _ _ _ _ hj1], rfl, ?_⟩, by simp [intOf]; omega⟩
                    have := hnn.out; have := hmm.out
                    unfold Hid
                    rw [show j + 1 - ly = (j - ly) + 1 by omega, Nat.add_mul]
                    omega
              · obtain rfl : j = ly + ny := by omega
                have hmv : mm = nx * ny := by have := hmm.out; rw [this, show ly + ny - ly = ny by omega, Nat.mul_comm]
                have hsv : lawSum (valOf zs) W lx ly nx (ly + ny) lx = boxSum (valOf zs) W lx ly nx ny := by unfold lawSum; rw [show ly + ny - ly = ny by omega]; omega
                have bs := lawSum_bd Hz.out.at W lx ly nx (ly + ny) lx (by omega) (Nat.le_refl _) (by omega) (by omega)
                have bm : 1 ≤ mm ∧ mm ≤ 16000000 := by
                  rw [hmv]
                  exact ⟨Nat.mul_pos (by omega) (by omega), Nat.mul_le_mul (show nx ≤ 4000 by omega) (show ny ≤ 4000 by omega)⟩
                have Hmv := Lib.hid hmv; have Hsv := Lib.hid hsv
                clear hmv hsv
                have hlen : y * W + x ≤ 1048576 := by have := HWH.out; omega
                go_wp2_with (first | (go_at_call 17; refine (round_any _ _ _ (by omega) (by omega) (by omega) (by omega)).mono ?_; rintro e w' ⟨rfl, rfl⟩) | (at_builtin; refine wpList_append_one rfl (.tmp 107) (.tmp 111) 25 rfl 3 (.int .i64 0) 8 Try.underlying25 info_int rfl w3.heap.size _ _ _ rfl _ rfl rfl hbr (Nat.le_refl _) hbr.le hown (by omega) (by unfold maxLen; omega) ?_; intro v' w' hown' hb' _))
                refine ⟨⟨x + 1, hlt2, by go_num, hb', ?_⟩, by simp [intOf]; omega⟩
                rw [← Nat.add_assoc, meanList_succ, Hm.out, ← Hsv.out]
                have e : ((nx : Int) * (ny : Int)) = ((mm : Nat) : Int) := by rw [Hmv.out]; simp
                rw [e]
                exact hown'
          · go_wp2_with fail
            obtain rfl : x = W := by omega
            exact ⟨⟨y + 1, hlt, by go_num, hbr, by rw [Nat.add_mul, Nat.one_mul]; exact hown⟩, by simp [intOf]; omega⟩
      · obtain rfl : y = H := by omega
        have hcomm := Nat.mul_comm y W
        obtain ⟨B, d, rfl, hrd⟩ := own_reads hown
        have hg4 := (hg3.bl hbr)
        have hlen : (meanList zs W y r (y * W)).length = W * y := by simp [meanList, hcomm]
        have hq := equalInts_any (some ⟨g, 0, none⟩) B (W * y) d (meanList zs W y r (y * W)) (meanList zs W y r (y * W)) wr (by rw [hlen]; have := (hg4.reads (W * y) 1 (by simp)); simpa [meanList, hcomm, Function.comp_def] using this) (by rw [hlen]; rw [← hcomm]; exact hrd) (by rw [hlen]; omega)
        rw [hlen] at hq
        rw [hcomm]
        have Hq := Lib.hid hq; have Hc := Lib.hid hcomm
        clear hq hcomm
        go_wp2_with fail
        refine Hq.out.mono ?_
        rintro e w4 ⟨rfl, hb4⟩
        go_wp2_with fail
        go_ret
        exact ⟨rfl, (((((Bl.refl _).alloc _).trans hb1).trans hb13).trans hbr).trans hb4⟩
  · have hbg : (400 : Int) < (W:Int) * (H:Int) := by have := HWH.out; omega
    go_wp2_with fail
    go_ret
    exact ⟨rfl, (((Bl.refl _).alloc _).trans hb1).trans hb13⟩

end Go.Proofs.Ytldmofdidgibhaa
