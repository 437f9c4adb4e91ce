/- bar.Find and bedref2.CodesOf: the codes of a page. -/
import Derived.Test.YtkipcobpnecmhaaGreatDoorMClaimBarCodes36
import Derived.Test.YtkipcobpnecmhaaGreatDoorMClaimBarCodes26
import Derived.Test.YtkipcobpnecmhaaGreatDoorMClaimBarCodes1

namespace Go.Proofs.YtkipcobpnecmhaaGreatDoor
open Go.RowKit Go.Shelf

/-- The runs as whole numbers. -/
def zRuns (l : List Nat) : List Int := l.map fun (n : Nat) => (n : Int)
theorem zRuns_len (l : List Nat) : (zRuns l).length = l.length := List.length_map ..
theorem zRuns_cells (l : List Nat) : intCells (zRuns l) = natCells l := by
  unfold intCells zRuns natCells
  rw [List.map_map]
  rfl
theorem runsTo_sum (f : Nat → Bool) : ∀ k, (runsTo f k).1.sum + (runsTo f k).2 = k
  | 0 => rfl
  | k + 1 => by
    have ih := runsTo_sum f k
    by_cases hs : f k = inkAt f k
    · rw [runs_same hs]
      show (runsTo f k).1.sum + ((runsTo f k).2 + 1) = k + 1
      omega
    · rw [runs_new hs]
      show ((runsTo f k).1 ++ [(runsTo f k).2]).sum + 1 = k + 1
      rw [List.sum_append]
      simp
      omega
theorem runsL_sum (f : Nat → Bool) (k : Nat) : (runsL f k).sum = k := by
  unfold runsL
  rw [List.sum_append]
  have := runsTo_sum f k
  simpa using this
theorem take_sum_le (l : List Nat) (i : Nat) : (l.take i).sum ≤ l.sum := by
  have h := congrArg List.sum (List.take_append_drop i l)
  rw [List.sum_append] at h
  omega
theorem sumI_nat (l : List Nat) (i : Nat) : sumI (zRuns l) i = (((l.take i).sum : Nat) : Int) := by
  unfold sumI zRuns
  rw [← List.map_take]
  generalize l.take i = k
  induction k with
  | nil => rfl
  | cons a k ih => simp only [List.map_cons, List.sum_cons, ih]; omega
theorem take_sum_succ {l : List Nat} {i a : Nat} (h : l[i]? = some a) : (l.take (i + 1)).sum = (l.take i).sum + a := by
  rw [List.take_add_one, h, List.sum_append]
  simp
/-- What the array of sums holds once i runs are in. -/
def atTab (l : List Nat) (i k : Nat) : Int := if k ≤ i then (((l.take k).sum : Nat) : Int) else 0
theorem tryAt_ean (zs : List Int) (i : Nat) (h : i ≤ zs.length) : tryAt zs i 59 1 = hitE (zs.drop i) := by
  unfold tryAt hitE
  rw [List.length_drop]
  by_cases h1 : i + 59 ≤ zs.length
  · rw [if_pos h1, if_pos (by omega)]
  · rw [if_neg h1, if_neg (by omega)]
theorem tryAt_39 (zs : List Int) (i m : Nat) (hm : 1 ≤ m) (h : i + 10 * m - 1 ≤ zs.length) : tryAt zs i (10 * m - 1) 2 = hit39 (zs.drop i) m := by
  unfold tryAt hit39
  rw [if_pos (by omega)]
theorem code_one (c : Cd) : ∀ u ∈ c.cells, u.oneCell' = true := by simp [Cd.cells, Value.oneCell']
def TrySt (zs : List Int) (w5 : World) (i : Nat) (s12 s13 s14 s15 s16 : Value) (wr : World) : Prop := ∃ (kd : Int) (mn : Nat) (t : List UInt8) (b : Bool) (m : Nat), s12 = .int .i64 kd ∧ s13 = .int .i64 mn ∧ s14 = .string ⟨t.toArray⟩ ∧ s15 = .bool b ∧ s16 = .int .i64 m ∧ 3 ≤ m ∧ m ≤ 405 ∧ Bl w5 wr ∧
  (b = true → codeP (zs.drop i) = some (kd, t, mn)) ∧ (b = false → hitE (zs.drop i) = none ∧ from39 (zs.drop i) 3 = from39 (zs.drop i) m)

def RowRes (cs : List Cd) (w : World) (e : Ending) (w' : World) : Prop := ∃ R c, e = .returned (.slice R cs.length c) ∧ Reads w' 6 R cs.length (cdCells cs) ∧ Bl w w'
set_option maxRecDepth 100000 in
set_option maxHeartbeats 8000000 in
theorem rowOf_any (W H : Nat) (A : Option Addr) (ac : Nat) (bs : List Bool) (y : Nat) (w : World) (hA : Reads w 1 A (W * H) (bs.map .bool)) (hW : W ≤ 4000) (hH : H ≤ 4000) (hy : y < H) (hT : SpOk w) :
    Calls Tryz.prog 20 #[.agg #[.int .i64 W, .int .i64 H, .slice A (W * H) ac], .int .i64 y] w (RowRes (rowC (zRuns (runsL (fun x => pix bs W x y) W)) y) w) := by
  let w2 := (w).alloc (.cells #[.int .i64 W, .int .i64 H, .slice A (W * H) ac] 28)
  have w2b : Bl w w2 := (Bl.refl w).alloc _
  have w21 : Blk w2 (w.heap.size) 28 #[.int .i64 W, .int .i64 H, .slice A (W * H) ac] := by
    have h0 := Blk.new (w) 28 #[.int .i64 W, .int .i64 H, .slice A (W * H) ac]
    exact h0
  have HT := Lib.hid (hT.bl w2b)
  have hro := runsOf_any W H A ac bs y w2 (hA.bl w2b) hW hH hy
  obtain ⟨l, hl⟩ : ∃ l, l = runsL (fun x => pix bs W x y) W := ⟨_, rfl⟩
  have hls : l.sum ≤ 4000 := by rw [hl, runsL_sum]; exact hW
  have hll : l.length ≤ 4001 := by
    rw [hl]
    unfold runsL
    have := (runsTo_le (fun x => pix bs W x y) W).1
    rw [List.length_append, List.length_singleton]
    omega
  have hl0 : 0 < l.length := by rw [hl]; unfold runsL; simp
  unfold RunsOfRes at hro
  rw [← hl] at hro ⊢
  obtain ⟨zs, hzs⟩ : ∃ zs, zs = zRuns l := ⟨_, rfl⟩
  rw [← hzs]
  have HZs := Lib.hid hzs
  clear hzs
  have Hro := Lib.hid hro
  have HLs := Lib.hid hls
  have k1 := w21.all3
  clear hA hT hro hl hls
  obtain ⟨n, hn⟩ : ∃ n, n = l.length := ⟨_, rfl⟩
  rw [← hn] at Hro hll hl0
  have HN := Lib.hid hn
  clear hn
  go_enter Tryz.func20, Tryz.ntmps20
  go_wp2_with fail
  refine Hro.out.mono ?_
  rintro e w3 ⟨R, d, rfl, hr3, hb3', hd⟩
  have hb3 : Bl w2 w3 := hb3'
  clear hb3' Hro k1
  clear_value w2
  have HR3 := Lib.hid hr3; have HD := Lib.hid hd
  clear hr3 hd
  obtain ⟨ad, rfl, -⟩ := HR3.out.2 hl0
  go_upto_region 2 with fail
  obtain ⟨w4, hw4⟩ : ∃ x, x = w3.alloc (.cells #[.slice (some ad) n d] 68) := ⟨_, rfl⟩
  obtain ⟨g5, hg5⟩ : ∃ x, x = w3.heap.size := ⟨_, rfl⟩
  have b5 : Blk w4 g5 68 #[.slice (some ad) n d] := by rw [hw4, hg5]; exact Blk.new _ _ _
  have hb34 : Bl w3 w4 := by rw [hw4]; exact (Bl.refl _).alloc _
  rw [← hw4, ← hg5]
  clear hw4 hg5
  have hmk := run_make_row' (P := Tryz.prog) 68 3 (.int .i64 0) 8 Tryz.underlying68 info_int rfl .i64 .i64 (n + 1) (by omega) (by omega)
  rw [tabI_made, show ((n + 1 : Nat) : Int) = (n : Int) + 1 by omega] at hmk
  have k5 := b5.all1
  go_upto_region 3 with fail
  obtain ⟨w5, hw5⟩ : ∃ x, x = w4.alloc (.cells (tabI (n + 1) fun _ => 0) 3) := ⟨_, rfl⟩
  obtain ⟨g6, hg6⟩ : ∃ x, x = w4.heap.size := ⟨_, rfl⟩
  have b6 : Blk w5 g6 3 (tabI (n + 1) (atTab l 0)) := by
    rw [hw5, hg6]
    have h0 : tabI (n + 1) (atTab l 0) = tabI (n + 1) fun _ => 0 := tabI_congr fun k _ => by
      unfold atTab
      by_cases hk : k ≤ 0
      · rw [if_pos hk, show k = 0 by omega]; rfl
      · rw [if_neg hk]
    rw [h0]
    exact Blk.new _ _ _
  have hb45 : Bl w4 w5 := by rw [hw5]; exact (Bl.refl _).alloc _
  have h46 : w4.heap.size ≤ g6 := by omega
  rw [← hw5, ← hg6]
  clear hw5 hg6 hmk
  have k5' := (b5.bl hb45).all1
  clear k5
  have HB6 := Lib.hid b6
  clear b6
  go_wp2_with fail
  go_loopw [26] (fun u wr => ∃ i : Nat, i ≤ n ∧ u = .int .i64 i ∧ Bl w4 wr ∧ Blk wr g6 3 (tabI (n + 1) (atTab l i))) (fun u _ => n - (intOf u).toNat)
  case atStart => exact ⟨0, Nat.zero_le _, rfl, hb45, HB6.out⟩
  case round =>
    clear k5' HB6
    obtain ⟨i, hi, rfl, hbr, hbo⟩ := hrel
    by_cases hlt : i < n
    · obtain ⟨a, ha⟩ : ∃ a, l[i]? = some a := ⟨_, List.getElem?_eq_getElem (by rw [← HN.out]; exact hlt)⟩
      have hss := take_sum_succ ha
      have hs1 := take_sum_le l (i + 1)
      have hs2 := HLs.out
      obtain ⟨ad', e', hc⟩ := (HR3.out.bl (hb34.trans hbr)).2 hl0
      injection e' with e'
      subst e'
      have hca := hc i (.int .i64 a) (by unfold natCells; rw [List.getElem?_map, ha]; rfl)
      have kc := hbo.tabAt (show i < n + 1 by omega)
      have kc1 := hbo.tabAt (show i + 1 < n + 1 by omega)
      have kf := hbo.frozen (i + 1)
      obtain ⟨s0, hs0⟩ : ∃ s, s = (l.take i).sum := ⟨_, rfl⟩
      have hat : atTab l i i = (s0 : Int) := by unfold atTab; rw [if_pos (Nat.le_refl _), hs0]
      rw [hat] at kc
      rw [← hs0] at hss
      have hset := hbo.tabSet (f' := atTab l (i + 1)) (i + 1) ((s0 : Int) + (a : Int)) (fun k hk => by
        unfold atTab
        by_cases e : k = i + 1
        · subst e
          rw [if_pos (Nat.le_refl _), if_pos rfl, hss]
          omega
        · rw [if_neg e]
          by_cases e2 : k ≤ i
          · rw [if_pos e2, if_pos (by omega)]
          · rw [if_neg e2, if_neg (by omega)])
      have hsb : s0 ≤ 4000 := by omega
      have hab : a ≤ 4000 := by omega
      have Hset := Lib.hid hset
      clear hset hss hs1 hs2 hat hs0 ha hc
      go_wp2_with fail
      exact ⟨⟨i + 1, hlt, by go_num, hbr.setCell h46 _, Hset.out⟩, by simp [intOf]; omega⟩
    · obtain rfl : n = i := by omega
      rename World => w6
      have hb46 := hbr
      have HBo := Lib.hid hbo
      have HR6 := Lib.hid (HR3.out.bl (hb34.trans hb46))
      have HT6 := Lib.hid (HT.out.bl (hb3.trans (hb34.trans hb46)))
      have b56 := b5.bl hb46
      have HB5 := Lib.hid b56
      have HW6 := Lib.hid (w2b.trans (hb3.trans (hb34.trans hb46)))
      have HZl := Lib.hid (show zs.length = n by rw [HZs.out, zRuns_len]; exact HN.out.symm)
      have HRz := Lib.hid (show Reads w6 1 (some ad) zs.length (intCells zs) by rw [HZl.out, HZs.out, zRuns_cells]; exact HR6.out)
      have HSum := Lib.hid (show ∀ k, sumI zs k = (((l.take k).sum : Nat) : Int) ∧ (l.take k).sum ≤ 4000 from fun k => ⟨by rw [HZs.out]; exact sumI_nat l k, by have := take_sum_le l k; have := HLs.out; omega⟩)
      have Ht1 := Lib.hid (fun (j : Nat) (hj : j ≤ 10000) (wx : World) (hx : Bl w6 wx) => show Calls Tryz.prog 46 #[.int .i64 j, .int .i64 59, .int .i64 1, .pointer (some ⟨g5, 0, none⟩)] wx (TryRes (tryAt zs j 59 1) wx) from
        try1_any g5 zs (some ad) d j 59 wx (by rw [HZl.out]; exact HB5.out.bl hx) (HRz.out.bl hx) (by rw [HZl.out]; exact hll) (by rw [HZl.out]; exact HD.out) (by decide) (by decide) (by omega) (HT6.out.bl hx))
      have Ht2 := Lib.hid (fun (j mn : Nat) (hj : j ≤ 10000) (h1 : 1 ≤ mn) (h2 : mn ≤ 10000) (wx : World) (hx : Bl w6 wx) => show Calls Tryz.prog 46 #[.int .i64 j, .int .i64 mn, .int .i64 2, .pointer (some ⟨g5, 0, none⟩)] wx (TryRes (tryAt zs j mn 2) wx) from
        try2_any g5 zs (some ad) d j mn wx (by rw [HZl.out]; exact HB5.out.bl hx) (HRz.out.bl hx) (by rw [HZl.out]; exact hll) (by rw [HZl.out]; exact HD.out) h1 (by omega) (by omega) (HT6.out.bl hx))
      clear hbr hbo HR6 HR3 HN b56 b5 HT HRz HD HZs
      go_wp2_with fail
      go_loopw [10, 11] (fun s10 s11 wr => ∃ (i : Nat) (out : List Cd), 1 ≤ i ∧ i ≤ n + 2 ∧ s11 = .int .i64 i ∧ Bl w6 wr ∧ Hid (RowC wr w6.heap.size s10 out) ∧ Hid (out ++ rowAt zs y i = rowC zs y ∧ out.length * 30 ≤ i)) (fun _ s11 _ => 5000 - (intOf s11).toNat)
      case atStart => exact ⟨1, [], by decide, by omega, rfl, Bl.refl _, Lib.hid (RowC.nil _ _), Lib.hid ⟨rowAt_one zs y, by decide⟩⟩
      case round =>
        rename World => wr
        obtain ⟨i, out, hi1, hin, rfl, hbr, HRow, HOut⟩ := hrel
        have k5 := (HB5.out.bl hbr).all1
        by_cases hlt : i < n
        · have hlti : (i : Int) < (n : Int) := by omega
          go_wp2_with fail
          refine (Ht1.out i (by omega) _ hbr).mono ?_
          rintro e w7 ⟨s, b, rfl, hy1, hn1, hb7⟩
          have HY := Lib.hid (fun h => (tryAt_ean zs i (by rw [HZl.out]; omega)).symm.trans (hy1 h))
          have HNo := Lib.hid (fun h => (tryAt_ean zs i (by rw [HZl.out]; omega)).symm.trans (hn1 h))
          have HB7 := Lib.hid hb7
          clear hy1 hn1 hb7 k5 hlti
          have k5 := (HB5.out.bl (hbr.trans HB7.out)).all1
          go_wp2_with fail
          go_loopw [12, 13, 14, 15, 16] (fun s12 s13 s14 s15 s16 wx => TrySt zs wr i s12 s13 s14 s15 s16 wx) (fun _ _ _ _ s16 _ => 500 - (intOf s16).toNat)
          case atStart => exact ⟨1, 59, s, b, 3, rfl, rfl, rfl, rfl, rfl, by decide, by decide, HB7.out, fun h => codeP_ean (HY.out h), fun h => ⟨HNo.out h, rfl⟩⟩
          case round =>
            rename World => wq
            clear k5
            obtain ⟨kd, mn, t, b2, m, rfl, rfl, rfl, rfl, rfl, hm3, hm405, hbq, hyes, hno⟩ := hrel
            have k5 := (HB5.out.bl (hbr.trans hbq)).all1
            cases b2 with
            | false =>
              obtain ⟨hE, hF⟩ := hno rfl
              have HE := Lib.hid hE; have HF := Lib.hid hF
              clear hyes hno hE hF
              by_cases hle : i + 10 * m - 1 ≤ n
              · have c1 : (i : Int) + 10 * (m : Int) - 1 ≤ (n : Int) := by omega
                obtain ⟨mn2, hmn⟩ : ∃ k, k = 10 * m - 1 := ⟨_, rfl⟩
                have e1 : 10 * (m : Int) - 1 = (mn2 : Int) := by omega
                have HM := Lib.hid hmn
                have hm1 : 1 ≤ mn2 := by omega
                have hm2 : mn2 ≤ 10000 := by omega
                clear hmn
                go_wp2_with fail
                refine (Ht2.out i mn2 (by omega) hm1 hm2 _ (hbr.trans hbq)).mono ?_
                rintro e w9 ⟨s2, b3, rfl, hy2, hn2, hb9⟩
                have htr : tryAt zs i mn2 2 = hit39 (zs.drop i) m := by rw [HM.out]; exact tryAt_39 zs i m (by omega) (by rw [HZl.out]; exact hle)
                have hlen : 10 * m - 1 ≤ (zs.drop i).length := by rw [List.length_drop, HZl.out]; omega
                have HY2 := Lib.hid (fun h => show codeP (zs.drop i) = some (2, s2, mn2) from by rw [HM.out]; exact codeP_39 HE.out (HF.out.trans (from39_hit hlen (htr.symm.trans (hy2 h)))))
                have HN2 := Lib.hid (fun h => HF.out.trans (from39_miss hlen (htr.symm.trans (hn2 h))))
                clear hy2 hn2 htr hlen
                go_wp2_with fail
                exact ⟨⟨2, mn2, s2, b3, m + 1, rfl, rfl, rfl, rfl, by go_num, by omega, by omega, hbq.trans hb9, HY2.out, fun h => ⟨HE.out, HN2.out h⟩⟩, by simp [intOf] <;> omega⟩
              · have c1 : ¬ (i : Int) + 10 * (m : Int) - 1 ≤ (n : Int) := by omega
                have HC := Lib.hid (show codeP (zs.drop i) = none from codeP_none HE.out (HF.out.trans (from39_end (by rw [List.length_drop, HZl.out]; omega))))
                go_wp2_with fail
                have ho := HOut.out.2
                exact ⟨⟨i + 2, out, by omega, by omega, by go_num, hbr.trans hbq, Lib.hid (HRow.out.bl hbq), Lib.hid ⟨by rw [← rowAt_none (by rw [HZl.out]; exact hlt) HC.out]; exact HOut.out.1, by omega⟩⟩, by simp [intOf] <;> omega⟩
            | true =>
              have hc := hyes rfl
              obtain ⟨hk12, hmn29, hmnl⟩ := codeP_many hc
              rw [List.length_drop, HZl.out] at hmnl
              obtain ⟨u, hu⟩ : ∃ u, u = (l.take i).sum := ⟨_, rfl⟩
              obtain ⟨v, hv⟩ : ∃ v, v = (l.take (i + mn)).sum := ⟨_, rfl⟩
              have ka : w6.cell? ⟨g6, i, none⟩ = some (.int .i64 (u : Int)) := by
                rw [HBo.out.tabAt (show i < n + 1 by omega)]
                unfold atTab
                rw [if_pos (by omega), hu]
              have kb : w6.cell? ⟨g6, i + mn, none⟩ = some (.int .i64 (v : Int)) := by
                rw [HBo.out.tabAt (show i + mn < n + 1 by omega)]
                unfold atTab
                rw [if_pos (by omega), hv]
              have hu4 : u ≤ 4000 := by have := (HSum.out i).2; omega
              have hv4 : v ≤ 4000 := by have := (HSum.out (i + mn)).2; omega
              have HNew := Lib.hid (show (out ++ [⟨kd, t, u, y, (v : Int) - u, 1⟩]) ++ rowAt zs y (i + mn + 1) = rowC zs y by
                rw [List.append_assoc, ← HOut.out.1, rowAt_code (by rw [HZl.out]; exact hlt) hc, (HSum.out i).1, (HSum.out (i + mn)).1, ← hu, ← hv]
                rfl)
              have hb6q := hbr.trans hbq
              have HRq := Lib.hid (HRow.out.bl hbq)
              have hsz := hb6q.le
              have d1 : (i : Int) < (n : Int) + 1 := by omega
              have d2 : (i : Int) + (mn : Int) < (n : Int) + 1 := by omega
              have d3 : (0 : Int) ≤ (i : Int) + (mn : Int) := by omega
              have ho := HOut.out.2
              clear hyes hno hc hu hv k5 HRow
              go_upto_region 21 with fail
              refine wp_region_flowS (Bl w6) [(true, 0), (true, 1), (true, 2), (true, 3), (true, 4), (true, 5), (true, 6), (true, 7), (true, 8), (true, 9), (true, 10), (true, 11), (true, 12), (true, 13), (true, 14), (true, 15), (true, 16), (true, 17), (true, 18), (true, 19), (false, 20), (false, 21), (true, 22)] (by kernel_rfl) (by kernel_rfl) (by kernel_rfl) (by kernel_rfl) (Bl.drew hb6q) ?_
              iterate 5
                apply FlowS.mv _ rfl
                · intro K' hK'
                  simp only [Act.put, Act.eval, List.setIfInBounds_toArray, List.set_cons_zero, List.set_cons_succ, arr_getD, List.getD_cons_zero, List.getD_cons_succ]
                  exact hK'
              iterate 1
                apply FlowS.calm2 _ _ rfl rfl
                · intro w' hb' K' hK'
                  obtain ⟨hc', hf'⟩ := hb'.rule
                  go_simp
                  try go_ints
                  exact hK'
                · intro K' hK'
                  simp only [Act.put, List.setIfInBounds_toArray, List.set_cons_zero, List.set_cons_succ]
                  exact hK'
              iterate 1
                apply FlowS.calm2 _ _ rfl rfl
                · intro w' hb' K' hK'
                  obtain ⟨hc', hf'⟩ := hb'.rule
                  go_simp
                  try go_ints
                  exact hK'
                · intro K' hK'
                  simp only [Act.put, List.setIfInBounds_toArray, List.set_cons_zero, List.set_cons_succ]
                  exact hK'
              iterate 4
                apply FlowS.mv _ rfl
                · intro K' hK'
                  simp only [Act.put, Act.eval, List.setIfInBounds_toArray, List.set_cons_zero, List.set_cons_succ, arr_getD, List.getD_cons_zero, List.getD_cons_succ]
                  exact hK'
              iterate 1
                apply FlowS.calm2 _ _ rfl rfl
                · intro w' hb' K' hK'
                  obtain ⟨hc', hf'⟩ := hb'.rule
                  go_simp
                  try go_ints
                  exact hK'
                · intro K' hK'
                  simp only [Act.put, List.setIfInBounds_toArray, List.set_cons_zero, List.set_cons_succ]
                  exact hK'
              iterate 1
                apply FlowS.calm2 _ _ rfl rfl
                · intro w' hb' K' hK'
                  obtain ⟨hc', hf'⟩ := hb'.rule
                  go_simp
                  try go_ints
                  exact hK'
                · intro K' hK'
                  simp only [Act.put, List.setIfInBounds_toArray, List.set_cons_zero, List.set_cons_succ]
                  exact hK'
              iterate 1
                apply FlowS.calm2 _ _ rfl rfl
                · intro w' hb' K' hK'
                  obtain ⟨hc', hf'⟩ := hb'.rule
                  go_simp
                  try go_ints
                  exact hK'
                · intro K' hK'
                  simp only [Act.put, List.setIfInBounds_toArray, List.set_cons_zero, List.set_cons_succ]
                  exact hK'
              iterate 2
                apply FlowS.mv _ rfl
                · intro K' hK'
                  simp only [Act.put, Act.eval, List.setIfInBounds_toArray, List.set_cons_zero, List.set_cons_succ, arr_getD, List.getD_cons_zero, List.getD_cons_succ]
                  exact hK'
              iterate 1
                apply FlowS.calm2 _ _ rfl rfl
                · intro w' hb' K' hK'
                  obtain ⟨hc', hf'⟩ := hb'.rule
                  go_simp
                  try go_ints
                  exact hK'
                · intro K' hK'
                  simp only [Act.put, List.setIfInBounds_toArray, List.set_cons_zero, List.set_cons_succ]
                  exact hK'
              iterate 1
                apply FlowS.calm2 _ _ rfl rfl
                · intro w' hb' K' hK'
                  obtain ⟨hc', hf'⟩ := hb'.rule
                  go_simp
                  try go_ints
                  exact hK'
                · intro K' hK'
                  simp only [Act.put, List.setIfInBounds_toArray, List.set_cons_zero, List.set_cons_succ]
                  exact hK'
              iterate 1
                apply FlowS.calm2 _ _ rfl rfl
                · intro w' hb' K' hK'
                  obtain ⟨hc', hf'⟩ := hb'.rule
                  go_simp
                  try go_ints
                  exact hK'
                · intro K' hK'
                  simp only [Act.put, List.setIfInBounds_toArray, List.set_cons_zero, List.set_cons_succ]
                  exact hK'
              iterate 1
                apply FlowS.calm2 _ _ rfl rfl
                · intro w' hb' K' hK'
                  obtain ⟨hc', hf'⟩ := hb'.rule
                  go_simp
                  try go_ints
                  exact hK'
                · intro K' hK'
                  simp only [Act.put, List.setIfInBounds_toArray, List.set_cons_zero, List.set_cons_succ]
                  exact hK'
              apply FlowS.move rfl
              go_wp2_with fail
              refine ⟨(by first | assumption | (repeat' (first | assumption | refine Bl.drew ?_ | refine Bl.alloc ?_ _))), ?_⟩
              apply FlowS.move rfl
              go_wp2_with (at_builtin; refine wpList_append_bl (w1 := w6) rfl (.tmp 84) (.tmp 104) 35 rfl 39 (.agg #[.int .i64 0, .string ⟨#[]⟩, .int .i64 0, .int .i64 0, .int .i64 0, .int .i64 0]) 6 56 Tryz.underlying35 info_code rfl (by omega) w6.heap.size _ out.length (cdCells out) rfl ((hb6q.alloc _).drew) (Nat.le_refl _) (((hb6q.alloc _).drew).le) (own_bl HRq.out.1 (((Bl.refl wq).alloc _).drew)) (some ⟨wq.heap.size, 0, none⟩) 1 1 (Cd.cells ⟨kd, t, u, y, (v : Int) - u, 1⟩) rfl (((Blk.new _ _ _).drew).reads 1 6 rfl) (code_one _) (by unfold maxLen; omega) (by omega) ?_; intro v' w8 hown8 hb8 hg8; have HOw8 := Lib.hid hown8)
              go_wp2_with fail
              refine ⟨(by first | assumption | (repeat' (first | assumption | refine Bl.drew ?_ | refine Bl.alloc ?_ _))), ?_⟩
              iterate 1
                apply FlowS.asg _ rfl
                · intro K' hK'
                  simp only [Act.put, Act.eval, List.setIfInBounds_toArray, List.set_cons_zero, List.set_cons_succ, arr_getD, List.getD_cons_zero, List.getD_cons_succ]
                  exact hK'
              refine FlowS.done ?_
              have HR8 := Lib.hid (show RowC w8 w6.heap.size v' (out ++ [⟨kd, t, u, y, (v : Int) - u, 1⟩]) from ⟨by
                rw [cdCells_append, List.length_append]
                simpa [cdCells] using HOw8.out, fun e => by simp at e⟩)
              have HB8 := Lib.hid hb8
              clear hown8 hb8 hg8 HOw8 ka kb d1 d2 d3
              go_wp2_with fail
              exact ⟨⟨i + mn + 1, _, by omega, by omega, by go_num, HB8.out, HR8, Lib.hid ⟨HNew.out, by simp; omega⟩⟩, by simp [intOf] <;> omega⟩
        · obtain ⟨A', c', rfl, hrd⟩ := own_reads HRow.out.1
          have hout : out = rowC zs y := by
            have h := HOut.out.1
            rw [rowAt_end (by rw [HZl.out]; omega), List.append_nil] at h
            exact h
          have HRd := Lib.hid hrd
          have HO := Lib.hid hout
          clear hrd hout
          have hlti : ¬ (i : Int) < (n : Int) := by omega
          go_wp2_with fail
          refine bodyPost_ret (v := .slice A' out.length c') (by simp [results, Tryz.results20, go_sem]) rfl ⟨A', c', by rw [HO.out], by rw [← HO.out]; exact HRd.out, HW6.out.trans hbr⟩
end Go.Proofs.YtkipcobpnecmhaaGreatDoor


/-! bar.ReadRow: the codes of a row. -/
namespace Go.Proofs.YtkipcobpnecmhaaGreatDoor
open Go.RowKit Go.Shelf

theorem reads_drop {w : World} {ad : Addr} {zs : List Int} {i : Nat} (h : Reads w 1 (some ad) zs.length (intCells zs)) (hi : i ≤ zs.length) : Reads w 1 (some (ad.add i)) (zs.length - i) (intCells (zs.drop i)) := by
  have h1 := reads_sub (i := i) (m := zs.length - i) h (by omega)
  have e : (zs.drop i).take (zs.length - i) = zs.drop i := List.take_of_length_le (by rw [List.length_drop]; omega)
  rwa [e] at h1
theorem take_over {l : List Nat} {i : Nat} (h : l.length ≤ i) : (l.take i).sum = l.sum := by rw [List.take_of_length_le h]
theorem runs_zeroR {W H : Int} {an : Nat} {y : Int} (hz : runsErr (pageErr W H an) H y = 0) : ∃ Wn Hn yn : Nat, W = (Wn : Int) ∧ H = (Hn : Int) ∧ y = (yn : Int) ∧ an = Wn * Hn ∧ Wn ≤ 4000 ∧ Hn ≤ 4000 ∧ yn < Hn := by
  have h1 := firstNZ_zero hz _ (List.mem_cons_self ..)
  have h2 := firstNZ_zero hz (whenI (!inB y 0 (H - 1)) 13) (by simp)
  have hin : inB y 0 (H - 1) = true := by
    cases h : inB y 0 (H - 1)
    · rw [h] at h2; exact absurd h2 (by decide)
    · rfl
  rw [inB_true] at hin
  have hs : sizeErr W H = 0 := by
    unfold pageErr at h1
    by_cases h2 : sizeErr W H = 0
    · exact h2
    · rw [if_neg h2] at h1
      exact h1
  have hz2 := sizeErr_zero hs
  unfold pageErr at h1
  rw [if_pos hs] at h1
  have han : (an : Int) = W * H := by
    by_cases h : (an : Int) = W * H
    · exact h
    · rw [if_neg h] at h1; exact absurd h1 (by decide)
  obtain ⟨Wn, rfl⟩ := Int.eq_ofNat_of_zero_le (show 0 ≤ W by omega)
  obtain ⟨Hn, rfl⟩ := Int.eq_ofNat_of_zero_le (show 0 ≤ H by omega)
  obtain ⟨yn, rfl⟩ := Int.eq_ofNat_of_zero_le hin.1
  exact ⟨Wn, Hn, yn, rfl, rfl, rfl, by exact_mod_cast han, by omega, by omega, by omega⟩
def ReadRowRes (W H : Int) (an : Nat) (bs : List Bool) (y : Int) (w : World) (e : Ending) (w' : World) : Prop := ∃ R m d err, e = .returned (.tuple #[.slice R m d, .int .i64 err]) ∧ err = runsErr (pageErr W H an) H y ∧ (err ≠ 0 → R = none ∧ m = 0) ∧
    (err = 0 → m = (rowC (zRuns (runsL (fun x => pix bs W.toNat x y.toNat) W.toNat)) y).length ∧ Reads w' 6 R m (cdCells (rowC (zRuns (runsL (fun x => pix bs W.toNat x y.toNat) W.toNat)) y))) ∧ Bl w w'
theorem readRow_bad {W H : Int} {an : Nat} {bs : List Bool} {y : Int} {w w' : World} {err : Int} (h : err = runsErr (pageErr W H an) H y) (hz : err ≠ 0) (hb : Bl w w') : ReadRowRes W H an bs y w (.returned (.tuple #[.slice none 0 0, .int .i64 err])) w' :=
  ⟨none, 0, 0, err, rfl, h, fun _ => ⟨rfl, rfl⟩, fun h => absurd h hz, hb⟩

set_option maxRecDepth 100000 in
set_option maxHeartbeats 8000000 in
theorem readRow_any (W H : Int) (A : Option Addr) (an ac : Nat) (bs : List Bool) (y : Int) (w : World) (hA : Reads w 1 A an (bs.map .bool)) (hac : an ≤ ac) (hT : SpOk w) :
    Calls Tryz.prog 15 #[.agg #[.int .i64 W, .int .i64 H, .slice A an ac], .int .i64 y] w (ReadRowRes W H an bs y w) := by
  let w2 := (w).alloc (.cells #[.int .i64 W, .int .i64 H, .slice A an ac] 28)
  have w2b : Bl w w2 := (Bl.refl w).alloc _
  have w21 : Blk w2 (w.heap.size) 28 #[.int .i64 W, .int .i64 H, .slice A an ac] := by
    have h0 := Blk.new (w) 28 #[.int .i64 W, .int .i64 H, .slice A an ac]
    exact h0
  have HT := Lib.hid (hT.bl w2b)
  have hru := runs_any W H A an ac bs y w2 (hA.bl w2b) hac
  unfold RunsRes at hru
  obtain ⟨E, hE⟩ : ∃ E, E = runsErr (pageErr W H an) H y := ⟨_, rfl⟩
  rw [← hE] at hru
  have Hru := Lib.hid hru
  have HE := Lib.hid hE
  have k1 := w21.all3
  clear hA hT hru hE
  go_enter Tryz.func15, Tryz.ntmps15
  go_wp2_with fail
  refine Hru.out.mono ?_
  rintro e w3 ⟨R, m, d, E', rfl, rfl, hbad, hok, hb3'⟩
  rename Int => E
  have hb3 : Bl w2 w3 := hb3'
  clear hb3' Hru k1
  clear_value w2
  have HW3 := Lib.hid (w2b.trans hb3)
  by_cases hz : E = 0
  case neg =>
    have hq : (E != 0) = true := by simp [hz]
    have HZ := Lib.hid hz
    clear hz hbad hok
    go_wp2_with fail
    exact bodyPost_ret (v := .tuple #[.slice none 0 0, .int .i64 E]) (by simp [results, Tryz.results15, go_sem]) rfl (readRow_bad HE.out HZ.out HW3.out)
  case pos =>
    obtain ⟨Wn, Hn, yn, rfl, rfl, rfl, rfl, hW4, hH4, hy⟩ := runs_zeroR (HE.out.symm.trans hz)
    obtain ⟨hm2, hrd, hd⟩ := hok hz
    subst hz
    simp only [Int.toNat_natCast] at hm2 hrd
    obtain ⟨l, hl⟩ : ∃ l, l = runsL (fun x => pix bs Wn x yn) Wn := ⟨_, rfl⟩
    have hls : l.sum ≤ 4000 := by rw [hl, runsL_sum]; exact hW4
    have hll : l.length ≤ 4001 := by
      rw [hl]
      unfold runsL
      have := (runsTo_le (fun x => pix bs Wn x yn) Wn).1
      rw [List.length_append, List.length_singleton]
      omega
    have hl0 : 0 < l.length := by rw [hl]; unfold runsL; simp
    rw [← hl] at hm2 hrd
    obtain ⟨n, hn⟩ : ∃ n, n = l.length := ⟨_, rfl⟩
    rw [← hn] at hll hl0 hm2
    subst hm2
    obtain ⟨ad, rfl, -⟩ := hrd.2 hl0
    obtain ⟨zs, hzs⟩ : ∃ zs, zs = zRuns l := ⟨_, rfl⟩
    have HZl := Lib.hid (show zs.length = m by rw [hzs, zRuns_len, ← hn])
    have HRz := Lib.hid (show Reads w3 1 (some ad) zs.length (intCells zs) by rw [HZl.out, hzs, zRuns_cells]; exact hrd)
    have HSum := Lib.hid (show ∀ k, sumI zs k = (((l.take k).sum : Nat) : Int) ∧ (l.take k).sum ≤ 4000 from fun k => ⟨by rw [hzs]; exact sumI_nat l k, by have := take_sum_le l k; omega⟩)
    have HFin := Lib.hid (fun (cs : List Cd) (h : cs = rowC zs yn) => show cs = rowC (zRuns (runsL (fun x => pix bs ((Wn : Int)).toNat x ((yn : Int)).toNat) ((Wn : Int)).toNat)) (yn : Int) by
      simp only [Int.toNat_natCast]
      rw [← hl, ← hzs]
      exact h)
    have HN := Lib.hid hn; have HD := Lib.hid hd
    have HCell := Lib.hid (fun (i a : Nat) (hi : l[i]? = some a) (wx : World) (hx : Bl w3 wx) => show wx.cell? (ad.add i) = some (.int .i64 a) by
      obtain ⟨ad', e', hc⟩ := (hrd.bl hx).2 hl0
      injection e' with e'
      subst e'
      exact hc i _ (by unfold natCells; rw [List.getElem?_map, hi]; rfl))
    have HT3 := Lib.hid (HT.out.bl hb3)
    obtain ⟨a0, ha0⟩ : ∃ a, l[0]? = some a := ⟨_, List.getElem?_eq_getElem (by rw [← hn]; exact hl0)⟩
    have hc0 := HCell.out 0 a0 ha0 w3 (Bl.refl _)
    have hs1 : (l.take 1).sum = a0 := by rw [take_sum_succ ha0]; simp
    have HS1 := Lib.hid hs1
    rw [show ad.add 0 = ad by unfold Addr.add; simp] at hc0
    clear hs1 ha0 hn hd hzs hrd hl hok hbad hls HT
    go_wp2_with fail
    go_loopw [8, 9, 10] (fun s8 s9 s10 wr => ∃ (i : Nat) (out : List Cd), 1 ≤ i ∧ i ≤ m + 2 ∧ s10 = .int .i64 i ∧ s9 = .int .i64 (((l.take i).sum : Nat) : Int) ∧ Bl w3 wr ∧ Hid (RowC wr w3.heap.size s8 out) ∧ Hid (out ++ rowAt zs yn i = rowC zs yn ∧ out.length * 30 ≤ i)) (fun _ _ s10 _ => 5000 - (intOf s10).toNat)
    case atStart => exact ⟨1, [], by decide, by omega, rfl, by rw [HS1.out], Bl.refl _, Lib.hid (RowC.nil _ _), Lib.hid ⟨rowAt_one zs yn, by decide⟩⟩
    case round =>
      rename World => wr
      clear hc0
      obtain ⟨i, out, hi1, hin, rfl, rfl, hbr, HRow, HOut⟩ := hrel
      obtain ⟨u, hu⟩ : ∃ u, u = (l.take i).sum := ⟨_, rfl⟩
      have hu4 : u ≤ 4000 := by have := (HSum.out i).2; omega
      have HU := Lib.hid hu
      rw [← hu]
      clear hu
      by_cases hlt : i < m
      · have hlti : (i : Int) < (m : Int) := by omega
        have hdl : (zs.drop i).length = m - i := by rw [List.length_drop, HZl.out]
        have hca := codeAt_any (zs.drop i) (some (ad.add i)) (d - i) wr (by rw [hdl]; have h := reads_drop (HRz.out.bl hbr) (show i ≤ zs.length by rw [HZl.out]; omega); rw [HZl.out] at h; exact h) (by omega) (by have := HD.out; omega) (HT3.out.bl hbr)
        rw [hdl] at hca
        have Hca := Lib.hid hca
        have HDl := Lib.hid hdl
        have hdm := HD.out
        clear hca hdl
        go_wp2_with fail
        refine Hca.out.mono ?_
        rintro e w4 hres
        have hP : ∃ kd t many, e = .returned (.tuple #[.agg #[.int .i64 kd, .string ⟨t.toArray⟩, .int .i64 0, .int .i64 0, .int .i64 0, .int .i64 0], .int .i64 ((many : Nat) : Int)]) ∧ (codeP (zs.drop i) = some (kd, t, many) ∨ (many = 0 ∧ codeP (zs.drop i) = none)) ∧ Bl wr w4 := by
          rcases hres with ⟨kd, t, many, hc, he, hb⟩ | ⟨hc, he, hb⟩
          · exact ⟨kd, t, many, he, .inl hc, hb⟩
          · exact ⟨0, [], 0, he, .inr ⟨rfl, hc⟩, hb⟩
        obtain ⟨kd, t, many, rfl, hP, hb4⟩ := hP
        clear hres Hca hdm
        have HP := Lib.hid hP
        clear hP
        go_upto_region 9 with fail
        obtain ⟨w5, hw5⟩ : ∃ x, x = w4.alloc (.cells #[.int .i64 kd, .string ⟨t.toArray⟩, .int .i64 0, .int .i64 0, .int .i64 0, .int .i64 0] 39) := ⟨_, rfl⟩
        obtain ⟨gc, hgc⟩ : ∃ x, x = w4.heap.size := ⟨_, rfl⟩
        have bC : Blk w5 gc 39 #[.int .i64 kd, .string ⟨t.toArray⟩, .int .i64 0, .int .i64 0, .int .i64 0, .int .i64 0] := by rw [hw5, hgc]; exact Blk.new _ _ _
        have hb45 : Bl w4 w5 := by rw [hw5]; exact (Bl.refl _).alloc _
        have hgc4 : w4.heap.size ≤ gc := by omega
        have hb3_4 := hbr.trans hb4
        have HR4 := Lib.hid (HRow.out.bl hb4)
        rw [← hw5, ← hgc]
        clear hw5 hgc
        go_upto_if 41 with fail
        go_cut [8, 13, 15] from 41 to 69 (fun s8 s13 s15 wc => ∃ (out2 : List Cd) (st : Nat), s13 = .int .i64 st ∧ 2 ≤ st ∧ i + st ≤ m + 2 ∧ Bl w3 wc ∧ Hid (RowC wc w3.heap.size s8 out2) ∧ Hid (out2 ++ rowAt zs yn (i + st) = rowC zs yn ∧ out2.length * 30 ≤ i + st))
        case first =>
          rcases HP.out with hc | ⟨rfl, hc⟩
          · obtain ⟨hk12, hmn29, hmnl⟩ := codeP_many hc
            rw [HDl.out] at hmnl
            have hm0 : (0 : Int) < (many : Int) := by omega
            have cc := bC.all6'
            have HC := Lib.hid hc
            clear hc HP
            go_upto_region 12 with fail
            obtain ⟨w6, hw6⟩ : ∃ x, x = ((w5.setCell ⟨gc, 2, none⟩ (.int .i64 u)).setCell ⟨gc, 3, none⟩ (.int .i64 yn)).setCell ⟨gc, 5, none⟩ (.int .i64 1) := ⟨_, rfl⟩
            have bC6 : Blk w6 gc 39 #[.int .i64 kd, .string ⟨t.toArray⟩, .int .i64 u, .int .i64 yn, .int .i64 0, .int .i64 1] := by rw [hw6]; exact ((bC.set_ 2 _).set_ 3 _).set_ 5 _
            have hb46 : Bl w4 w6 := by rw [hw6]; exact ((hb45.setCell hgc4 _).setCell hgc4 _).setCell hgc4 _
            rw [← hw6]
            have HBC := Lib.hid bC6
            clear hw6 bC cc bC6
            have hd2 := HD.out
            go_wp2_with fail
            go_loopw [54] (fun s54 wx => ∃ j : Nat, j ≤ many ∧ s54 = .int .i64 j ∧ Bl w4 wx ∧ Blk wx gc 39 #[.int .i64 kd, .string ⟨t.toArray⟩, .int .i64 u, .int .i64 yn, .int .i64 ((((l.take (i + j)).sum : Nat) : Int) - (u : Int)), .int .i64 1]) (fun s54 _ => many - (intOf s54).toNat)
            case atStart => exact ⟨0, Nat.zero_le _, rfl, hb46, by rw [Nat.add_zero, ← HU.out, Int.sub_self]; exact HBC.out⟩
            case round =>
              rename World => wx
              obtain ⟨j, hj, rfl, hbx, hbC⟩ := hrel
              have cc := hbC.all6'
              have hb3x := hb3_4.trans hbx
              by_cases hjl : j < many
              · obtain ⟨a, ha⟩ : ∃ a, l[i + j]? = some a := ⟨_, List.getElem?_eq_getElem (by rw [← HN.out]; omega)⟩
                have hcj := HCell.out (i + j) a ha wx hb3x
                rw [← add_of_add] at hcj
                have hss := take_sum_succ ha
                have hs1 := (HSum.out (i + j)).2
                have hs2 := (HSum.out (i + j + 1)).2
                obtain ⟨s, hs⟩ : ∃ s, s = (l.take (i + j)).sum := ⟨_, rfl⟩
                rw [← hs] at hss hs1 cc hbC
                have HSs := Lib.hid hss
                have hset := hbC.set_ 4 (.int .i64 ((s : Int) - (u : Int) + (a : Int)))
                have HSet := Lib.hid (show Blk (wx.setCell ⟨gc, 4, none⟩ (.int .i64 ((s : Int) - (u : Int) + (a : Int)))) gc 39 #[.int .i64 kd, .string ⟨t.toArray⟩, .int .i64 u, .int .i64 yn, .int .i64 ((((l.take (i + (j + 1))).sum : Nat) : Int) - (u : Int)), .int .i64 1] by
                  rw [show i + (j + 1) = i + j + 1 by omega, HSs.out, show (((s + a : Nat) : Int) - (u : Int)) = (s : Int) - (u : Int) + (a : Int) by omega]
                  exact hset)
                have hjlt : (j : Int) < (many : Int) := by omega
                have ha4 : a ≤ 4000 := by omega
                clear hs hss hset ha hbC
                go_wp2_with fail
                exact ⟨⟨j + 1, hjl, by go_num, hbx.setCell hgc4 _, HSet.out⟩, by simp [intOf] <;> omega⟩
              · obtain rfl : many = j := by omega
                have hjlt : ¬ (many : Int) < (many : Int) := by omega
                obtain ⟨v, hv⟩ : ∃ v, v = (l.take (i + many)).sum := ⟨_, rfl⟩
                rw [← hv] at cc hbC
                have HNew := Lib.hid (show (out ++ [⟨kd, t, u, yn, (v : Int) - u, 1⟩]) ++ rowAt zs yn (i + (many + 1)) = rowC zs yn by
                  rw [List.append_assoc, ← HOut.out.1, rowAt_code (by rw [HZl.out]; exact hlt) HC.out, (HSum.out i).1, (HSum.out (i + many)).1, ← HU.out, ← hv]
                  rfl)
                have ho := HOut.out.2
                have HRx := Lib.hid (HR4.out.bl hbx)
                clear hv hbC
                go_wp2_with (at_builtin; refine wpList_append_bl (w1 := w3) rfl (.tmp 64) (.tmp 66) 35 rfl 39 (.agg #[.int .i64 0, .string ⟨#[]⟩, .int .i64 0, .int .i64 0, .int .i64 0, .int .i64 0]) 6 56 Tryz.underlying35 info_code rfl (by omega) w3.heap.size _ out.length (cdCells out) rfl (hb3x.alloc _) (Nat.le_refl _) ((hb3x.alloc _).le) (own_bl HRx.out.1 ((Bl.refl wx).alloc _)) (some ⟨wx.heap.size, 0, none⟩) 1 1 (Cd.cells ⟨kd, t, u, yn, (v : Int) - u, 1⟩) rfl ((Blk.new _ _ _).reads 1 6 rfl) (code_one _) (by unfold maxLen; omega) (by omega) ?_; intro v' w8 hown8 hb8 hg8; have HOw8 := Lib.hid hown8)
                have HR8 := Lib.hid (show RowC w8 w3.heap.size v' (out ++ [⟨kd, t, u, yn, (v : Int) - u, 1⟩]) from ⟨by
                  rw [cdCells_append, List.length_append]
                  simpa [cdCells] using HOw8.out, fun e => by simp at e⟩)
                have HB8 := Lib.hid hb8
                clear hown8 hb8 hg8 HOw8 cc
                go_wp2_with fail
                go_meet
                case rel => exact ⟨_, many + 1, by go_num, by omega, by omega, HB8.out, HR8, Lib.hid ⟨HNew.out, by simp; omega⟩⟩
          · have HC := Lib.hid hc
            clear hc HP
            go_wp2_with fail
            go_meet
            case rel => exact ⟨out, 2, rfl, by omega, by omega, hb3_4.trans hb45, Lib.hid (HR4.out.bl hb45), Lib.hid ⟨by rw [← rowAt_none (by rw [HZl.out]; exact hlt) HC.out]; exact HOut.out.1, by have := HOut.out.2; omega⟩⟩
        case rest =>
          obtain ⟨out2, st, rfl, h2st, hst, hbc, HRow2, HOut2⟩ := hcut
          rename World => w7
          clear bC hb45 HP
          have HCc := Lib.hid hbc
          clear hbc
          have hst4 : st ≤ 5000 := by omega
          go_wp2_with fail
          go_loopw [9, 16] (fun s9 s16 wx => ∃ k : Nat, i ≤ k ∧ k ≤ i + st ∧ k ≤ max i m ∧ s16 = .int .i64 k ∧ s9 = .int .i64 (((l.take k).sum : Nat) : Int) ∧ w7 = wx) (fun _ s16 _ => 10000 - (intOf s16).toNat)
          case atStart => exact ⟨i, Nat.le_refl _, by omega, by omega, rfl, by rw [HU.out], rfl⟩
          case round =>
            obtain ⟨k, hik, hks, hkm, rfl, rfl, rfl⟩ := hrel
            by_cases hq : i + st ≤ m
            · have q1 : ¬ (m : Int) < (i : Int) + (st : Int) := by omega
              by_cases hk : k < i + st
              · have q2 : (k : Int) < (i : Int) + (st : Int) := by omega
                obtain ⟨a, ha⟩ : ∃ a, l[k]? = some a := ⟨_, List.getElem?_eq_getElem (by rw [← HN.out]; omega)⟩
                have hcj := HCell.out k a ha w7 HCc.out
                have hss := take_sum_succ ha
                have hs1 := (HSum.out k).2
                have hs2 := (HSum.out (k + 1)).2
                have hkm1 : (k : Int) < (m : Int) := by omega
                obtain ⟨s, hs⟩ : ∃ s, s = (l.take k).sum := ⟨_, rfl⟩
                rw [← hs] at hss hs1 ⊢
                have ha4 : a ≤ 4000 := by omega
                have HSs := Lib.hid hss
                clear hs hss ha
                go_wp2_with fail
                exact ⟨⟨k + 1, by omega, by omega, by omega, by go_num, by rw [HSs.out]; go_num, by first | rfl | trivial⟩, by simp [intOf] <;> omega⟩
              · obtain rfl : k = i + st := by omega
                have q2 : ¬ ((i + st : Nat) : Int) < (i : Int) + (st : Int) := by omega
                go_wp2_with fail
                exact ⟨⟨i + st, out2, by omega, hst, by go_num, rfl, HCc.out, HRow2, HOut2⟩, by simp [intOf] <;> omega⟩
            · have q1 : (m : Int) < (i : Int) + (st : Int) := by omega
              by_cases hk : k < m
              · have q2 : (k : Int) < (m : Int) := by omega
                obtain ⟨a, ha⟩ : ∃ a, l[k]? = some a := ⟨_, List.getElem?_eq_getElem (by rw [← HN.out]; omega)⟩
                have hcj := HCell.out k a ha w7 HCc.out
                have hss := take_sum_succ ha
                have hs1 := (HSum.out k).2
                have hs2 := (HSum.out (k + 1)).2
                have hkm1 : (k : Int) < (m : Int) := by omega
                obtain ⟨s, hs⟩ : ∃ s, s = (l.take k).sum := ⟨_, rfl⟩
                rw [← hs] at hss hs1 ⊢
                have ha4 : a ≤ 4000 := by omega
                have HSs := Lib.hid hss
                clear hs hss ha
                go_wp2_with fail
                exact ⟨⟨k + 1, by omega, by omega, by omega, by go_num, by rw [HSs.out]; go_num, by first | rfl | trivial⟩, by simp [intOf] <;> omega⟩
              · obtain rfl : k = m := by omega
                have HOv := Lib.hid (show (l.take k).sum = (l.take (i + st)).sum by rw [take_over (show l.length ≤ k by rw [← HN.out]; exact Nat.le_refl _), take_over (show l.length ≤ i + st by rw [← HN.out]; omega)])
                have q2 : ¬ (k : Int) < (k : Int) := by omega
                go_wp2_with fail
                exact ⟨⟨i + st, out2, by omega, hst, by go_num, by rw [HOv.out], HCc.out, HRow2, HOut2⟩, by simp [intOf] <;> omega⟩
      · obtain ⟨A', c', rfl, hrd⟩ := own_reads HRow.out.1
        have hout : out = rowC zs yn := by
          have h := HOut.out.1
          rw [rowAt_end (by rw [HZl.out]; omega), List.append_nil] at h
          exact h
        have HRd := Lib.hid hrd
        have HO := Lib.hid hout
        clear hrd hout
        have hlti : ¬ (i : Int) < (m : Int) := by omega
        go_wp2_with fail
        refine bodyPost_ret (v := .tuple #[.slice A' out.length c', .int .i64 0]) (by simp [results, Tryz.results15, go_sem]) rfl ⟨A', _, c', 0, rfl, HE.out, fun h => absurd rfl h, fun _ => ?_, HW3.out.trans hbr⟩
        rw [← HFin.out out HO.out]
        exact ⟨rfl, HRd.out⟩
end Go.Proofs.YtkipcobpnecmhaaGreatDoor


/-! Codes of rows: how many, and that they are right. -/
namespace Go.Proofs.YtkipcobpnecmhaaGreatDoor
open Go.RowKit

theorem rowFrom_len (zs : List Int) (y : Int) : ∀ k i, i ≤ zs.length + 1 → (rowFrom zs y k i).length * 30 ≤ zs.length + 1 - i
  | 0, _, _ => Nat.zero_le _
  | k + 1, i, h => by
    show (if i < zs.length then _ else _ : List Cd).length * 30 ≤ _
    by_cases hi : i < zs.length
    · rw [if_pos hi]
      cases hc : codeP (zs.drop i) with
      | none =>
        simp only
        have := rowFrom_len zs y k (i + 2)
        by_cases h2 : i + 2 ≤ zs.length + 1
        · have := this h2; omega
        · have e : rowFrom zs y k (i + 2) = [] := by
            cases k with
            | zero => rfl
            | succ k => show (if _ then _ else _) = []; rw [if_neg (by omega)]
          rw [e]; exact Nat.zero_le _
      | some x =>
        obtain ⟨kd, t, many⟩ := x
        obtain ⟨-, h29, hm⟩ := codeP_many hc
        rw [List.length_drop] at hm
        have := rowFrom_len zs y k (i + many + 1) (by omega)
        simp only [List.length_cons]
        omega
    · rw [if_neg hi]; exact Nat.zero_le _
theorem rowC_len2 (zs : List Int) (y : Int) : (rowC zs y).length * 30 ≤ zs.length := by
  have := rowFrom_len zs y zs.length 1 (by omega)
  unfold rowC
  omega
/-! ### what a text of a code may be long -/
theorem out_len : ∀ {ps : List (UInt8 × List UInt8)}, (∀ p ∈ ps, p.2.length = 1) → (outOf ps).length = ps.length
  | [], _ => rfl
  | p :: ps, h => by
    unfold outOf
    rw [List.flatMap_cons, List.length_append, h p (List.mem_cons_self ..), List.length_cons]
    have := out_len (ps := ps) fun q hq => h q (List.mem_cons_of_mem _ hq)
    unfold outOf at this
    omega
theorem digs_len {m d : List UInt8} (h : digsE m = some d) : d.length = 13 := by
  unfold digsE at h
  by_cases hh : headOK m = true
  · rw [if_pos hh] at h
    cases hp : partsE m 12 with
    | none => rw [hp] at h; cases h
    | some ps =>
      rw [hp] at h
      obtain ⟨f, -, rfl⟩ := Option.map_eq_some_iff.1 h
      rw [List.length_cons, out_len, parts_len hp]
      intro p hpm
      obtain ⟨i, hi⟩ := List.getElem?_of_mem hpm
      obtain ⟨d, -, -, hn, -⟩ := dec_mem (k := p.1) (n := p.2) (parts_at hp i p hi)
      rw [hn]; rfl
  · rw [if_neg hh] at h; cases h
theorem readE_len (m : List UInt8) : (readE m).1.length ≤ 13 := by
  unfold readE
  cases h : digsE m with
  | none => exact Nat.zero_le _
  | some d =>
    simp only
    have := digs_len h
    split
    · show d.length ≤ 13; omega
    · exact Nat.zero_le _
theorem rd39_len (m : List UInt8) : (rd39 m).1.length ≤ 43 := by
  rcases t39_cases m with ⟨T, hT1, hT2⟩ | ⟨-, h⟩
  · have h43 := (shp_len hT2).2
    rw [rd_some hT1 hT2]
    split
    · show (bodyT T).length ≤ 43
      unfold bodyT
      rw [List.length_take, List.length_drop]
      omega
    · exact Nat.zero_le _
  · rw [h]; exact Nat.zero_le _
theorem rdK_len (kind : Int) (m : List UInt8) : (rdK kind m).1.length ≤ 43 := by
  unfold rdK eitherG
  have h1 := readE_len m; have h2 := readE_len m.reverse
  have h3 := rd39_len m; have h4 := rd39_len m.reverse
  split
  · split <;> omega
  · split <;> omega
theorem tryC_text {zs : List Int} {kind : Int} {t : List UInt8} (h : tryC zs kind = some t) : t.length ≤ 43 := by
  unfold tryC at h
  split at h
  · split at h
    · rw [← Option.some.inj h]; exact rdK_len _ _
    · cases h
  · cases h
theorem codeP_text {zs : List Int} {kd : Int} {t : List UInt8} {many : Nat} (h : codeP zs = some (kd, t, many)) : t.length ≤ 43 := by
  cases he : hitE zs with
  | some t' =>
    rw [codeP_ean he] at h
    obtain ⟨rfl, h2⟩ := Prod.mk.inj (Option.some.inj h)
    obtain ⟨rfl, rfl⟩ := Prod.mk.inj h2
    unfold hitE at he
    split at he
    · exact tryC_text he
    · cases he
  | none =>
    cases hf : from39 zs 3 with
    | none => rw [codeP_none he hf] at h; cases h
    | some x =>
      obtain ⟨m, t'⟩ := x
      rw [codeP_39 he hf] at h
      obtain ⟨rfl, h2⟩ := Prod.mk.inj (Option.some.inj h)
      obtain ⟨rfl, rfl⟩ := Prod.mk.inj h2
      exact tryC_text (find39_in hf).2.2
theorem rowFrom_ok {zs : List Int} {y : Int} (hs : ∀ i j, i ≤ j → 0 ≤ sumI zs i ∧ sumI zs i ≤ sumI zs j ∧ sumI zs j ≤ 4000) (hy : 0 ≤ y ∧ y ≤ 4000) : ∀ k i, ∀ c ∈ rowFrom zs y k i, cdErr c = 0 ∧ c.t.length ≤ 43
  | 0, _, c, h => by cases h
  | k + 1, i, c, h => by
    have h : c ∈ (if i < zs.length then (match codeP (zs.drop i) with
      | some (kd, t, many) => ⟨kd, t, sumI zs i, y, sumI zs (i + many) - sumI zs i, 1⟩ :: rowFrom zs y k (i + many + 1)
      | none => rowFrom zs y k (i + 2)) else [] : List Cd) := h
    by_cases hi : i < zs.length
    · rw [if_pos hi] at h
      cases hc : codeP (zs.drop i) with
      | none => rw [hc] at h; exact rowFrom_ok hs hy k (i + 2) c h
      | some x =>
        obtain ⟨kd, t, many⟩ := x
        rw [hc] at h
        rcases List.mem_cons.1 h with rfl | h
        · obtain ⟨hk, -, -⟩ := codeP_many hc
          have h1 := hs i (i + many) (by omega)
          have h0 := hs 0 i (by omega)
          refine ⟨?_, codeP_text hc⟩
          unfold cdErr
          rw [if_neg (by show ¬ (kd ≠ 1 ∧ kd ≠ 2); omega)]
          have : cdRange ⟨kd, t, sumI zs i, y, sumI zs (i + many) - sumI zs i, 1⟩ = true := by
            unfold cdRange
            simp only [Bool.and_eq_true]
            exact ⟨inB_true.2 (by omega), inB_true.2 hy, inB_true.2 (by omega), inB_true.2 (by omega)⟩
          rw [this]
          rfl
        · exact rowFrom_ok hs hy k (i + many + 1) c h
    · rw [if_neg hi] at h; cases h
theorem rowC_ok {l : List Nat} {y : Int} (hl : l.sum ≤ 4000) (hy : 0 ≤ y ∧ y ≤ 4000) : ∀ c ∈ rowC (zRuns l) y, cdErr c = 0 ∧ c.t.length ≤ 43 := by
  refine rowFrom_ok (fun i j hij => ?_) hy _ _
  rw [sumI_nat, sumI_nat]
  have h1 := take_sum_le l j
  have h2 : (l.take i).sum ≤ (l.take j).sum := by
    have := take_sum_le (l.take j) i
    rwa [List.take_take, Nat.min_eq_left hij] at this
  omega
/-! ### the codes of some rows -/
def rowAtY (bs : List Bool) (W y : Nat) : List Cd := rowC (zRuns (runsL (fun x => pix bs W x y) W)) (y : Int)
def codesTo (bs : List Bool) (W step : Nat) : Nat → List Cd
  | 0 => []
  | j + 1 => codesTo bs W step j ++ rowAtY bs W (j * step)
theorem rowAtY_ok {bs : List Bool} {W y : Nat} (hW : W ≤ 4000) (hy : y ≤ 4000) : ∀ c ∈ rowAtY bs W y, cdErr c = 0 ∧ c.t.length ≤ 43 := rowC_ok (by rw [runsL_sum]; exact hW) (by omega)
theorem runsL_len (f : Nat → Bool) (k : Nat) : (runsL f k).length ≤ k + 1 := by
  unfold runsL
  have := (runsTo_le f k).1
  rw [List.length_append, List.length_singleton]
  omega
theorem rowAtY_len (bs : List Bool) (W y : Nat) : (rowAtY bs W y).length * 30 ≤ W + 1 := by
  have h := rowC_len2 (zRuns (runsL (fun x => pix bs W x y) W)) (y : Int)
  rw [zRuns_len] at h
  have := runsL_len (fun x => pix bs W x y) W
  unfold rowAtY
  omega
theorem codesTo_len (bs : List Bool) (W step : Nat) : ∀ j, (codesTo bs W step j).length * 30 ≤ j * (W + 1)
  | 0 => Nat.zero_le _
  | j + 1 => by
    have h1 := codesTo_len bs W step j
    have h2 := rowAtY_len bs W (j * step)
    show (codesTo bs W step j ++ rowAtY bs W (j * step)).length * 30 ≤ _
    rw [List.length_append, Nat.add_mul, Nat.add_mul]
    omega
theorem codesTo_ok {bs : List Bool} {W step H : Nat} (hW : W ≤ 4000) (hH : H ≤ 4000) : ∀ j, (∀ i, i < j → i * step < H) → ∀ c ∈ codesTo bs W step j, cdErr c = 0 ∧ c.t.length ≤ 43
  | 0, _, c, h => by cases h
  | j + 1, hj, c, h => by
    rcases List.mem_append.1 h with h | h
    · exact codesTo_ok hW hH j (fun i hi => hj i (by omega)) c h
    · exact rowAtY_ok hW (by have := hj j (by omega); omega) c h
/-- How many rows are read. -/
def rowsN (H step : Nat) : Nat := (H + step - 1) / step
theorem rowsN_lt {H step : Nat} (hs : 1 ≤ step) (j : Nat) : j * step < H ↔ j < rowsN H step := by
  unfold rowsN
  rw [Nat.lt_iff_add_one_le (m := j), Nat.le_div_iff_mul_le (by omega), Nat.add_mul]
  omega
theorem vote_good {cs : List Cd} (h : ∀ c ∈ cs, cdErr c = 0) : voteErr cs = whenI (decide (10000 < (cs.length : Int))) 4 := by
  unfold voteErr
  rw [if_pos]
  have : ∀ l : List Cd, (∀ c ∈ l, cdErr c = 0) → firstNZ (l.map cdErr) = 0 := by
    intro l
    induction l with
    | nil => intro _; rfl
    | cons c l ih =>
      intro hl
      show (if cdErr c = 0 then firstNZ (l.map cdErr) else cdErr c) = 0
      rw [if_pos (hl c (List.mem_cons_self ..))]
      exact ih fun x hx => hl x (List.mem_cons_of_mem _ hx)
  exact this cs h
end Go.Proofs.YtkipcobpnecmhaaGreatDoor


/-! bar.Find and bedref2.CodesOf: the codes of a page. -/
namespace Go.Proofs.YtkipcobpnecmhaaGreatDoor
open Go.RowKit Go.Shelf

def findErr (pe step : Int) : Int := firstNZ [pe, whenI (!inB step 1 4000) 3]
theorem cdCells_one (cs : List Cd) : ∀ u ∈ cdCells cs, u.oneCell' = true := by
  intro u hu
  unfold cdCells at hu
  obtain ⟨c, -, h⟩ := List.mem_flatMap.1 hu
  exact code_one c u h
def FindRes (W H : Int) (an : Nat) (bs : List Bool) (step : Int) (w : World) (e : Ending) (w' : World) : Prop :=
  (findErr (pageErr W H an) step ≠ 0 ∧ e = .returned (.tuple #[.slice none 0 0, .int .i64 (findErr (pageErr W H an) step)]) ∧ Bl w w') ∨
  (findErr (pageErr W H an) step = 0 ∧ VoteRes (codesTo bs W.toNat step.toNat (rowsN H.toNat step.toNat)) w e w')
theorem find_bad {W H : Int} {an : Nat} {bs : List Bool} {step : Int} {w w' : World} {err : Int} (h : findErr (pageErr W H an) step = err) (hz : err ≠ 0) (hb : Bl w w') : FindRes W H an bs step w (.returned (.tuple #[.slice none 0 0, .int .i64 err])) w' :=
  .inl ⟨by rw [h]; exact hz, by rw [h], hb⟩
theorem find_zero {W H : Int} {an : Nat} {step : Int} (hz : findErr (pageErr W H an) step = 0) : pageErr W H an = 0 ∧ 1 ≤ step ∧ step ≤ 4000 := by
  have h1 := firstNZ_zero hz _ (List.mem_cons_self ..)
  have h2 := firstNZ_zero hz (whenI (!inB step 1 4000) 3) (by simp)
  have hin : inB step 1 4000 = true := by
    cases h : inB step 1 4000
    · rw [h] at h2; exact absurd h2 (by decide)
    · rfl
  rw [inB_true] at hin
  exact ⟨h1, hin⟩

set_option maxRecDepth 100000 in
set_option maxHeartbeats 4000000 in
theorem findC_any (W H : Int) (A : Option Addr) (an ac : Nat) (bs : List Bool) (step : Int) (w : World) (hA : Reads w 1 A an (bs.map .bool)) (hac : an ≤ ac) (hT : SpOk w) :
    Calls Tryz.prog 12 #[.agg #[.int .i64 W, .int .i64 H, .slice A an ac], .int .i64 step] w (FindRes W H an bs step w) := by
  let w2 := (w).alloc (.cells #[.int .i64 W, .int .i64 H, .slice A an ac] 28)
  have w2b : Bl w w2 := (Bl.refl w).alloc _
  have w21 : Blk w2 (w.heap.size) 28 #[.int .i64 W, .int .i64 H, .slice A an ac] := by
    have h0 := Blk.new (w) 28 #[.int .i64 W, .int .i64 H, .slice A an ac]
    exact h0
  have HA := Lib.hid (hA.bl w2b)
  have HT := Lib.hid (hT.bl w2b)
  have k1 := w21.all3
  clear hA hT
  go_enter Tryz.func12, Tryz.ntmps12
  go_wp2_with fail
  refine (checkBits_any _ _ _ _ _ _).mono ?_
  rintro e w3 ⟨rfl, hb3'⟩
  have hb3 : Bl w2 w3 := hb3'
  clear hb3' k1
  clear_value w2
  have HW3 := Lib.hid (w2b.trans hb3)
  obtain ⟨pe, hpe⟩ : ∃ pe, pe = pageErr W H an := ⟨_, rfl⟩
  rw [← hpe]
  have HPe := Lib.hid hpe
  clear hpe
  by_cases hz : pe = 0
  case neg =>
    have hq : (pe != 0) = true := by simp [hz]
    have HZ := Lib.hid hz
    have HE := Lib.hid (show findErr (pageErr W H an) step = pe by
      rw [← HPe.out]
      show (if pe = 0 then _ else pe) = pe
      rw [if_neg hz])
    clear hz
    go_wp2_with fail
    exact bodyPost_ret (v := .tuple #[.slice none 0 0, .int .i64 pe]) (by simp [results, Tryz.results12, go_sem]) rfl (find_bad HE.out HZ.out HW3.out)
  case pos =>
    have HE0 := Lib.hid (show findErr (pageErr W H an) step = whenI (!inB step 1 4000) 3 by
      rw [← HPe.out, hz]
      unfold findErr
      cases inB step 1 4000 <;> rfl)
    subst hz
    by_cases c1 : step < 1
    · have HE := Lib.hid (show findErr (pageErr W H an) step = 3 by rw [HE0.out, inB_false.2 (.inl c1)]; rfl)
      go_wp2_with fail
      exact bodyPost_ret (v := .tuple #[.slice none 0 0, .int .i64 3]) (by simp [results, Tryz.results12, go_sem]) rfl (find_bad HE.out (by decide) HW3.out)
    · by_cases c2 : 4000 < step
      · have HE := Lib.hid (show findErr (pageErr W H an) step = 3 by rw [HE0.out, inB_false.2 (.inr c2)]; rfl)
        go_wp2_with fail
        exact bodyPost_ret (v := .tuple #[.slice none 0 0, .int .i64 3]) (by simp [results, Tryz.results12, go_sem]) rfl (find_bad HE.out (by decide) HW3.out)
      · have HE := Lib.hid (show findErr (pageErr W H an) step = 0 by rw [HE0.out, inB_true.2 (by omega)]; rfl)
        obtain ⟨Wn, Hn, rfl, rfl, rfl, hW4, hH4, hWH⟩ := page_nat HPe.out.symm
        obtain ⟨st, rfl⟩ : ∃ st : Nat, step = (st : Int) := ⟨step.toNat, by omega⟩
        have hst1 : 1 ≤ st := by omega
        have hst4 : st ≤ 4000 := by omega
        obtain ⟨J, hJ⟩ : ∃ J, J = rowsN Hn st := ⟨_, rfl⟩
        have HJ := Lib.hid (show ∀ j, j * st < Hn ↔ j < J from fun j => by rw [hJ]; exact rowsN_lt hst1 j)
        have HFin := Lib.hid (fun (e : Ending) (w' : World) (h : VoteRes (codesTo bs Wn st J) w e w') => show FindRes (Wn : Int) (Hn : Int) (Wn * Hn) bs (st : Int) w e w' from .inr ⟨HE.out, by
          simp only [Int.toNat_natCast]
          rw [← hJ]
          exact h⟩)
        have HRow := Lib.hid (fun (y : Nat) (hy : y < Hn) (wx : World) (hx : Bl w2 wx) => show Calls Tryz.prog 15 #[.agg #[.int .i64 Wn, .int .i64 Hn, .slice A (Wn * Hn) ac], .int .i64 y] wx (fun e w' => ∃ R d, e = .returned (.tuple #[.slice R (rowAtY bs Wn y).length d, .int .i64 0]) ∧ Reads w' 6 R (rowAtY bs Wn y).length (cdCells (rowAtY bs Wn y)) ∧ Bl wx w') from
          (readRow_any (Wn : Int) (Hn : Int) A (Wn * Hn) ac bs (y : Int) wx (HA.out.bl hx) hac (HT.out.bl hx)).mono (by
            rintro e w' ⟨R, m, d, err, rfl, herr, -, hok, hb⟩
            have h0 : err = 0 := by
              rw [herr]
              unfold runsErr
              rw [← HPe.out, inB_true.2 (by omega)]
              rfl
            subst h0
            obtain ⟨rfl, hr⟩ := hok rfl
            simp only [Int.toNat_natCast] at hr ⊢
            exact ⟨R, d, rfl, hr, hb⟩))
        have HLen := Lib.hid (show ∀ j, j ≤ J → (codesTo bs Wn st j).length ≤ 600000 ∧ (rowAtY bs Wn (j * st)).length ≤ 200 from fun j hj => by
          have h1 := codesTo_len bs Wn st j
          have h2 := rowAtY_len bs Wn (j * st)
          have h3 : j ≤ 4000 := by
            rcases Nat.eq_zero_or_pos j with h | h
            · omega
            · have := (HJ.out (j - 1)).2 (by omega)
              have h4 : (j - 1) * 1 ≤ (j - 1) * st := Nat.mul_le_mul_left _ hst1
              omega
          have h5 : j * (Wn + 1) ≤ 4000 * 4001 := Nat.mul_le_mul h3 (by omega)
          omega)
        have HTx := Lib.hid (show ∀ c ∈ codesTo bs Wn st J, c.t.length ≤ 9223372036854775807 from fun c hc => by
          have := (codesTo_ok hW4 hH4 J (fun i hi => (HJ.out i).2 hi) c hc).2
          omega)
        have k1 := (w21.bl hb3).all3
        clear hJ HE0 HE HPe c1 c2 hWH
        go_wp2_with fail
        go_loopw [7, 8] (fun s7 s8 wr => ∃ j : Nat, j ≤ J ∧ s8 = .int .i64 ((j * st : Nat) : Int) ∧ Bl w3 wr ∧ Hid (wr.ownsRow w3.heap.size 39 6 s7 (codesTo bs Wn st j).length (cdCells (codesTo bs Wn st j)))) (fun _ s8 _ => 10000 - (intOf s8).toNat)
        case atStart => exact ⟨0, Nat.zero_le _, by rw [Nat.zero_mul]; rfl, Bl.refl _, Lib.hid (World.ownsRow_nil _ _ _ 6)⟩
        case round =>
          rename World => wr
          clear k1
          obtain ⟨j, hj, rfl, hbr, hown⟩ := hrel
          have k1 := (w21.bl (hb3.trans hbr)).all3
          obtain ⟨y, hy⟩ : ∃ y, y = j * st := ⟨_, rfl⟩
          have HY := Lib.hid hy
          have hjJ := HJ.out j
          rw [← hy] at hjJ ⊢
          by_cases hlt : y < Hn
          · have hyi : (y : Int) < (Hn : Int) := by omega
            have hj1 := hjJ.1 hlt
            have hl := HLen.out j hj
            have HC := Lib.hid (show codesTo bs Wn st (j + 1) = codesTo bs Wn st j ++ rowAtY bs Wn y by rw [hy]; rfl)
            rw [← hy] at hl
            obtain ⟨cs, hcs⟩ : ∃ cs, cs = codesTo bs Wn st j := ⟨_, rfl⟩
            rw [← hcs] at hown HC hl
            obtain ⟨rs, hrs⟩ : ∃ rs, rs = rowAtY bs Wn y := ⟨_, rfl⟩
            have hrow := fun wx hx => HRow.out y hlt wx hx
            rw [← hrs] at HC hl hrow
            have Hrow := Lib.hid hrow
            clear hcs hrs hrow hjJ hy
            go_wp2_with fail
            refine (Hrow.out _ (hb3.trans hbr)).mono ?_
            rintro e w5 ⟨R, d, rfl, hr, hb5⟩
            have HRd := Lib.hid hr
            have HOw := Lib.hid (own_bl hown.out hb5)
            have hb35 := hbr.trans hb5
            clear hr Hrow
            go_wp2_with (at_builtin; refine wpList_append_bl (w1 := w3) rfl (.tmp 35) (.tmp 36) 35 rfl 39 (.agg #[.int .i64 0, .string ⟨#[]⟩, .int .i64 0, .int .i64 0, .int .i64 0, .int .i64 0]) 6 56 Tryz.underlying35 info_code rfl (by omega) w3.heap.size _ cs.length (cdCells cs) rfl hb35 (Nat.le_refl _) hb35.le HOw.out R rs.length d (cdCells rs) rfl HRd.out (cdCells_one rs) (by unfold maxLen; omega) (by omega) ?_; intro v' w8 hown8 hb8 hg8; have HOw8 := Lib.hid hown8)
            have HO8 := Lib.hid (show w8.ownsRow w3.heap.size 39 6 v' (codesTo bs Wn st (j + 1)).length (cdCells (codesTo bs Wn st (j + 1))) by
              rw [HC.out, cdCells_append, List.length_append]
              exact HOw8.out)
            have HB8 := Lib.hid hb8
            clear hown8 hb8 hg8 HOw8
            go_wp2_with fail
            have hy := HY.out
            have hy2 : (j + 1) * st = y + st := by rw [Nat.add_mul, ← hy, Nat.one_mul]
            exact ⟨⟨j + 1, hj1, by rw [hy2]; go_num, HB8.out, HO8⟩, by simp [intOf] <;> omega⟩
          · have hyi : ¬ (y : Int) < (Hn : Int) := by omega
            obtain rfl : j = J := by
              have : ¬ j < J := fun h => hlt (hjJ.2 h)
              omega
            obtain ⟨R, d, rfl, hrd⟩ := own_reads hown.out
            have hl := HLen.out j hj
            have hvo := vote_any R d (codesTo bs Wn st j) wr hrd (by omega) HTx.out
            have HVo := Lib.hid hvo
            clear hvo hrd hown
            go_wp2_with fail
            refine HVo.out.mono ?_
            rintro e w9 hv
            rcases hv with ⟨h1, rfl, hb⟩ | ⟨h1, R3, c3, hin, rfl, hr, hb⟩
            · have HV := Lib.hid (HFin.out _ w9 (Or.inl ⟨h1, rfl, (HW3.out.trans hbr).trans hb⟩))
              clear h1 hb HVo
              go_wp2_with fail
              exact bodyPost_ret (v := .tuple #[.slice none 0 0, .int .i64 (voteErr (codesTo bs Wn st j))]) (by simp [results, Tryz.results12, go_sem]) rfl HV.out
            · have HV := Lib.hid (HFin.out _ w9 (Or.inr ⟨h1, R3, c3, hin, rfl, hr, (HW3.out.trans hbr).trans hb⟩))
              obtain ⟨q, hq⟩ : ∃ q, q = (groupC (codesTo bs Wn st j)).length := ⟨_, rfl⟩
              rw [← hq] at HV ⊢
              clear h1 hb HVo hr hq
              go_wp2_with fail
              exact bodyPost_ret (v := .tuple #[.slice R3 q c3, .int .i64 0]) (by simp [results, Tryz.results12, go_sem]) rfl HV.out

def CodesRes (cs : List Cd) (w : World) (e : Ending) (w' : World) : Prop := ∃ R c h, e = .returned (.slice R (groupC cs).length c) ∧ Reads w' 6 R (groupC cs).length (cdCells (sortedCd (groupC cs) h)) ∧ Bl w w'
set_option maxRecDepth 100000 in
set_option maxHeartbeats 4000000 in
theorem codesOf_any (W H st : Nat) (A : Option Addr) (ac : Nat) (bs : List Bool) (w : World) (hA : Reads w 1 A (W * H) (bs.map .bool)) (hW : W ≤ 4000) (hH : H ≤ 12) (hst1 : 1 ≤ st) (hst4 : st ≤ 4000) (hT : SpOk w) :
    Calls Tryz.prog 21 #[.agg #[.int .i64 W, .int .i64 H, .slice A (W * H) ac], .int .i64 st] w (CodesRes (codesTo bs W st (rowsN H st)) w) := by
  let w2 := (w).alloc (.cells #[.int .i64 W, .int .i64 H, .slice A (W * H) ac] 28)
  have w2b : Bl w w2 := (Bl.refl w).alloc _
  have w21 : Blk w2 (w.heap.size) 28 #[.int .i64 W, .int .i64 H, .slice A (W * H) ac] := by
    have h0 := Blk.new (w) 28 #[.int .i64 W, .int .i64 H, .slice A (W * H) ac]
    exact h0
  have HA := Lib.hid (hA.bl w2b)
  have HT := Lib.hid (hT.bl w2b)
  have HW2 := Lib.hid w2b
  obtain ⟨J, hJ⟩ : ∃ J, J = rowsN H st := ⟨_, rfl⟩
  have HJ := Lib.hid (show ∀ j, j * st < H ↔ j < J from fun j => by rw [hJ]; exact rowsN_lt hst1 j)
  rw [← hJ]
  have HRow := Lib.hid (fun (y : Nat) (hy : y < H) (wx : World) (hx : Bl w2 wx) => show Calls Tryz.prog 20 #[.agg #[.int .i64 W, .int .i64 H, .slice A (W * H) ac], .int .i64 y] wx (RowRes (rowAtY bs W y) wx) from
    rowOf_any W H A ac bs y wx (HA.out.bl hx) hW (by omega) hy (HT.out.bl hx))
  have HLen := Lib.hid (show ∀ j, j ≤ J → (codesTo bs W st j).length ≤ 2000 ∧ (rowAtY bs W (j * st)).length ≤ 200 from fun j hj => by
    have h1 := codesTo_len bs W st j
    have h2 := rowAtY_len bs W (j * st)
    have h3 : j ≤ 12 := by
      rcases Nat.eq_zero_or_pos j with h | h
      · omega
      · have := (HJ.out (j - 1)).2 (by omega)
        have h4 : (j - 1) * 1 ≤ (j - 1) * st := Nat.mul_le_mul_left _ hst1
        omega
    have h5 : j * (W + 1) ≤ 12 * 4001 := Nat.mul_le_mul h3 (by omega)
    omega)
  have HOk := Lib.hid (show ∀ c ∈ codesTo bs W st J, CdOk 1 c from fun c hc => by
    have h := codesTo_ok (H := H) hW (by omega) J (fun i hi => (HJ.out i).2 hi) c hc
    exact cdOk_of_err h.1 (by omega))
  have k1 := w21.all3
  clear hA hT hJ
  go_enter Tryz.func21, Tryz.ntmps21
  go_upto_region 1 with fail
  change Code.wp _ _ _ _ w2
  clear_value w2
  go_wp2_with fail
  go_loopw [5, 6] (fun s5 s6 wr => ∃ j : Nat, j ≤ J ∧ s6 = .int .i64 ((j * st : Nat) : Int) ∧ Bl w2 wr ∧ Hid (wr.ownsRow w2.heap.size 39 6 s5 (codesTo bs W st j).length (cdCells (codesTo bs W st j)))) (fun _ s6 _ => 10000 - (intOf s6).toNat)
  case atStart => exact ⟨0, Nat.zero_le _, by rw [Nat.zero_mul]; rfl, Bl.refl _, Lib.hid (World.ownsRow_nil _ _ _ 6)⟩
  case round =>
    rename World => wr
    clear k1
    obtain ⟨j, hj, rfl, hbr, hown⟩ := hrel
    have k1 := (w21.bl hbr).all3
    obtain ⟨y, hy⟩ : ∃ y, y = j * st := ⟨_, rfl⟩
    have HY := Lib.hid hy
    have hjJ := HJ.out j
    rw [← hy] at hjJ ⊢
    by_cases hlt : y < H
    · have hyi : (y : Int) < (H : Int) := by omega
      have hj1 := hjJ.1 hlt
      have hl := HLen.out j hj
      have HC := Lib.hid (show codesTo bs W st (j + 1) = codesTo bs W st j ++ rowAtY bs W y by rw [hy]; rfl)
      rw [← hy] at hl
      obtain ⟨cs, hcs⟩ : ∃ cs, cs = codesTo bs W st j := ⟨_, rfl⟩
      rw [← hcs] at hown HC hl
      obtain ⟨rs, hrs⟩ : ∃ rs, rs = rowAtY bs W y := ⟨_, rfl⟩
      have hrow := fun wx hx => HRow.out y hlt wx hx
      rw [← hrs] at HC hl hrow
      unfold RowRes at hrow
      have Hrow := Lib.hid hrow
      clear hcs hrs hrow hjJ hy
      go_wp2_with fail
      refine (Hrow.out _ hbr).mono ?_
      rintro e w5 ⟨R, d, rfl, hr, hb5⟩
      have HRd := Lib.hid hr
      have HOw := Lib.hid (own_bl hown.out hb5)
      have hb35 := hbr.trans hb5
      clear hr Hrow
      go_wp2_with (at_builtin; refine wpList_append_bl (w1 := w2) rfl (.tmp 14) (.tmp 17) 35 rfl 39 (.agg #[.int .i64 0, .string ⟨#[]⟩, .int .i64 0, .int .i64 0, .int .i64 0, .int .i64 0]) 6 56 Tryz.underlying35 info_code rfl (by omega) w2.heap.size _ cs.length (cdCells cs) rfl hb35 (Nat.le_refl _) hb35.le HOw.out R rs.length d (cdCells rs) rfl HRd.out (cdCells_one rs) (by unfold maxLen; omega) (by omega) ?_; intro v' w8 hown8 hb8 hg8; have HOw8 := Lib.hid hown8)
      have HO8 := Lib.hid (show w8.ownsRow w2.heap.size 39 6 v' (codesTo bs W st (j + 1)).length (cdCells (codesTo bs W st (j + 1))) by
        rw [HC.out, cdCells_append, List.length_append]
        exact HOw8.out)
      have HB8 := Lib.hid hb8
      clear hown8 hb8 hg8 HOw8
      go_wp2_with fail
      have hy := HY.out
      have hy2 : (j + 1) * st = y + st := by rw [Nat.add_mul, ← hy, Nat.one_mul]
      exact ⟨⟨j + 1, hj1, by rw [hy2]; go_num, HB8.out, HO8⟩, by simp [intOf] <;> omega⟩
    · have hyi : ¬ (y : Int) < (H : Int) := by omega
      obtain rfl : j = J := by
        have : ¬ j < J := fun h => hlt (hjJ.2 h)
        omega
      obtain ⟨R, d, rfl, hrd⟩ := own_reads hown.out
      have hl := HLen.out j hj
      have hvo := voteOf_any R d (codesTo bs W st j) wr hrd (by omega) HOk.out
      have HVo := Lib.hid hvo
      clear hvo hrd hown
      go_wp2_with fail
      refine HVo.out.mono ?_
      rintro e w9 ⟨R3, c3, hin, rfl, hr, hb⟩
      obtain ⟨q, hq⟩ : ∃ q, q = (groupC (codesTo bs W st j)).length := ⟨_, rfl⟩
      have HV := Lib.hid (show CodesRes (codesTo bs W st j) w (.returned (.slice R3 q c3)) w9 from ⟨R3, c3, hin, by rw [hq], hr, (HW2.out.trans hbr).trans hb⟩)
      rw [← hq]
      clear hb HVo hr hq
      go_wp2_with fail
      exact bodyPost_ret (v := .slice R3 q c3) (by simp [results, Tryz.results21, go_sem]) rfl HV.out
end Go.Proofs.YtkipcobpnecmhaaGreatDoor
