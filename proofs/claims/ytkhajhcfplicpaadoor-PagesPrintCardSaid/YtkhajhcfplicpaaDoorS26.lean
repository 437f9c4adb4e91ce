/- page.Parse: a page is read out of a text. -/
import Derived.Test.YtkhajhcfplicpaaDoorS25
import Derived.Test.YtkhajhcfplicpaaDoorS0

namespace Go.Proofs.YtkhajhcfplicpaaDoor
open Go.RowKit Go.Shelf

/-- What a reader of pages answers. -/
def ParseRes (w : World) (r : PageR) (e : Ending) : Prop := ∃ R c, e = .returned (.tuple #[.agg #[.int .i64 (r.1 : Nat), .int .i64 (r.2.1 : Nat), .slice R r.2.2.1.length c], .int .i64 (r.2.2.2.1 : Nat), .int .i64 r.2.2.2.2]) ∧ Reads w 1 R r.2.2.1.length (r.2.2.1.map .bool)
theorem ParseRes.none (w : World) (a : Nat) (k : Int) : ParseRes w (0, 0, [], a, k) (.returned (.tuple #[.agg #[.int .i64 0, .int .i64 0, .slice none 0 0], .int .i64 (a : Int), .int .i64 k])) := ⟨.none, 0, rfl, Reads.none_⟩
theorem u8_is35 (c : UInt8) : ((c.toNat : Int) == 35) = (c == 35) := by
  rw [Bool.eq_iff_iff, beq_iff_eq, beq_iff_eq]
  constructor
  · intro h
    have : c.toNat = 35 := by omega
    exact UInt8.toNat_inj.1 this
  · intro h; subst h; rfl
theorem finP_ok {W H : Nat} {P : List Bool} (h1 : H ≠ 0) (h2 : ¬ (200 < H ∨ 200 < W)) : finP W H P = (W, H, P, 0, 0) := by unfold finP; rw [if_neg h1, if_neg h2]
theorem finP_large {W H : Nat} {P : List Bool} (h1 : H ≠ 0) (h2 : 200 < H ∨ 200 < W) : finP W H P = (0, 0, [], 0, 4) := by unfold finP; rw [if_neg h1, if_pos h2]
theorem finP_none {W : Nat} {P : List Bool} : finP W 0 P = (0, 0, [], 0, 9) := by unfold finP; rw [if_pos rfl]

set_option maxRecDepth 100000 in
set_option maxHeartbeats 8000000 in
theorem parse_any (t : List UInt8) (w : World) (hM : CutOk w) (h63 : t.length ≤ 9223372036854775807) :
    Calls Tryd.prog 45 #[.string ⟨t.toArray⟩] w fun e w' => ParseRes w' (pageOf t) e ∧ Bl w w' := by
  have HM := Lib.hid hM
  have hsz : (⟨t.toArray⟩ : ByteArray).size = t.length := Lib.size_mk t
  clear hM
  by_cases hlong : 40200 < t.length
  · have HP := Lib.hid (show pageOf t = (0, 0, [], 0, 4) by unfold pageOf; rw [if_pos hlong])
    go_enter Tryd.func45, Tryd.ntmps45
    go_wp2_with fail
    refine bodyPost_ret (v := .tuple #[.agg #[.int .i64 0, .int .i64 0, .slice none 0 0], .int .i64 0, .int .i64 4]) (by simp [results, Tryd.results45, go_sem]) rfl ⟨by rw [HP.out]; exact ParseRes.none _ 0 4, ?_⟩
    repeat' (first | exact Bl.refl _ | refine Bl.drew ?_ | refine Bl.setCell ?_ (by simp) _ | refine Bl.alloc ?_ _)
  · have HP := Lib.hid (show pageOf t = leftP t 0 0 [] by unfold pageOf; rw [if_neg hlong]; rfl)
    have HL := Lib.hid hlong
    have b1 := Blk.new w 24 #[.int .i64 0, .int .i64 0, .slice none 0 0]
    have b1' := b1.alloc (.cells #[.int .i64 0, .int .i64 0, .slice none 0 0] 24)
    have b2 := Blk.new (w.alloc (.cells #[.int .i64 0, .int .i64 0, .slice none 0 0] 24)) 24 #[.int .i64 0, .int .i64 0, .slice none 0 0]
    simp only [World.size_alloc] at b2
    have B1 := Lib.hid b1'; have B2 := Lib.hid b2
    clear b1 b1' b2
    go_enter Tryd.func45, Tryd.ntmps45
    go_wp2_with fail
    go_loopw [0] (fun u wr => ∃ (t' : List UInt8) (W H : Nat) (P : List Bool) (R : Value), u = .string ⟨t'.toArray⟩ ∧ leftP t' W H P = leftP t 0 0 [] ∧ Bl w wr ∧ Blk wr w.heap.size 24 #[.int .i64 0, .int .i64 0, .slice none 0 0] ∧ Blk wr (w.heap.size + 1) 24 #[.int .i64 W, .int .i64 H, R] ∧
      wr.ownsRow (w.heap.size + 2) 4 1 R P.length (P.map .bool) ∧ w.heap.size + 2 ≤ wr.heap.size ∧ H + t'.length ≤ t.length ∧ P.length + t'.length ≤ t.length ∧ W ≤ t.length) (fun u _ => Lib.strSize u)
    case atStart => exact ⟨t, 0, 0, [], .slice none 0 0, rfl, rfl, ((Bl.refl _).alloc _).alloc _, B1.out, B2.out, World.ownsRow_nil _ _ _ _, by simp, by omega, by simp, by omega⟩
    case round =>
      obtain ⟨t', W, H, P, R, rfl, hleft, hbr, hb1, hb2, hown, hws, hH, hPl, hWl⟩ := hrel
      have HLeft := Lib.hid hleft; have HB1 := Lib.hid hb1
      clear B1 B2 hleft
      have hszt : (⟨t'.toArray⟩ : ByteArray).size = t'.length := Lib.size_mk t'
      have HSz := Lib.hid hszt
      have hlim : t'.length ≤ 40200 ∧ H ≤ 40200 ∧ W ≤ 40200 ∧ P.length ≤ 40200 := by omega
      obtain ⟨m1, m2, m3, m4⟩ := hlim
      have HHt := Lib.hid (And.intro hH (And.intro hPl hWl))
      clear hszt hH hPl hWl hlong hsz
      cases he : t'.isEmpty
      · obtain ⟨ln, hln⟩ : ∃ ln, ln = (Lib.cut t' [10]).1 := ⟨_, rfl⟩
        obtain ⟨rs, hrs⟩ : ∃ rs, rs = (Lib.cut t' [10]).2.1 := ⟨_, rfl⟩
        obtain ⟨fd, hfd⟩ : ∃ fd, fd = (Lib.cut t' [10]).2.2 := ⟨_, rfl⟩
        have hcut := fun w h => cut10_any t' w m1 h
        have hbad : badLine t' W H = (!fd || (ln.isEmpty || (!dotL ln || (decide (0 < H) && !decide (ln.length = W))))) := by rw [hln, hfd]; rfl
        have hgo : ¬ badLine t' W H = true → leftP t' W H P = leftP rs ln.length (H + 1) (P ++ ln.map (· == 35)) := fun h => by rw [leftP_go he h, hln, hrs]
        have hlens : fd = true → ln.length + rs.length + 1 = t'.length := fun h => by rw [hln, hrs]; exact cut_len (by rw [← hfd]; exact h)
        have herr : badLine t' W H = true → leftP t' W H P = (0, 0, [], H, 8) := fun h => leftP_bad he h
        rw [← hln, ← hrs, ← hfd] at hcut
        have HCut := Lib.hid hcut; have HBad := Lib.hid hbad; have HGo := Lib.hid hgo; have HLens := Lib.hid hlens; have HErr := Lib.hid herr
        clear hcut hbad hgo hlens herr hln hrs hfd
        have k2 := hb2.all3
        have HBr := Lib.hid hbr; have HB2 := Lib.hid hb2; have HOwn := Lib.hid hown; have HWs := Lib.hid hws
        clear hbr hb1 hb2 hown hws
        go_wp2_with fail
        refine (HCut.out _ (HM.out.bl HBr.out)).mono ?_
        rintro e w4 ⟨rfl, hb4⟩
        have Hb4 := Lib.hid hb4
        have k24 := (HB2.out.bl hb4).all3
        have k14 := (HB1.out.bl hb4).all3
        clear hb4 k2
        cases fd
        · have HX := Lib.hid (HErr.out (by rw [HBad.out]; rfl))
          go_wp2_with fail
          go_region
          all_goals
            go_wp2_with fail
            refine bodyPost_ret (v := .tuple #[.agg #[.int .i64 0, .int .i64 0, .slice none 0 0], .int .i64 H, .int .i64 8]) (by simp [results, Tryd.results45, go_sem, k14]) rfl ⟨by rw [HP.out, ← HLeft.out, HX.out]; exact ParseRes.none _ H 8, ?_⟩
            repeat' (first | exact HBr.out.trans Hb4.out | refine Bl.drew ?_ | refine Bl.setCell ?_ (by simp) _)
        · have hl0 := HLens.out rfl
          have HL0 := Lib.hid hl0
          have n1 : ln.length ≤ 40200 := by omega
          clear hl0
          cases hle : ln.isEmpty
          · go_wp2_with fail
            refine (trimHd_any ln _ n1).mono ?_
            rintro e w5 ⟨r, rfl, hr, hb5⟩
            have Hb5 := Lib.hid (Hb4.out.trans hb5)
            have k25 := (HB2.out.bl Hb5.out).all3
            have k15 := (HB1.out.bl Hb5.out).all3
            clear hb5 k24 k14
            cases hd : dotL ln
            · rw [hd] at hr
              have HX := Lib.hid (HErr.out (by rw [HBad.out, hd]; simp))
              go_wp2_with fail
              go_region
              all_goals
                go_wp2_with fail
                refine bodyPost_ret (v := .tuple #[.agg #[.int .i64 0, .int .i64 0, .slice none 0 0], .int .i64 H, .int .i64 8]) (by simp [results, Tryd.results45, go_sem, k15]) rfl ⟨by rw [HP.out, ← HLeft.out, HX.out]; exact ParseRes.none _ H 8, ?_⟩
                repeat' (first | exact HBr.out.trans Hb5.out | refine Bl.drew ?_ | refine Bl.setCell ?_ (by simp) _)
            · rw [hd] at hr
              by_cases hw : 0 < H ∧ ln.length ≠ W
              · have hx1 : 0 < (H : Int) := by omega
                have hx2 : ((ln.length : Int) != (W : Int)) = true := by simp; omega
                have hx3 : (⟨ln.toArray⟩ : ByteArray).size = ln.length := Lib.size_mk ln
                have HX := Lib.hid (HErr.out (by rw [HBad.out, hd, hle, decide_eq_true hw.1, decide_eq_false hw.2]; rfl))
                go_wp2_with fail
                go_region
                all_goals
                  go_wp2_with fail
                  refine bodyPost_ret (v := .tuple #[.agg #[.int .i64 0, .int .i64 0, .slice none 0 0], .int .i64 H, .int .i64 8]) (by simp [results, Tryd.results45, go_sem, k15]) rfl ⟨by rw [HP.out, ← HLeft.out, HX.out]; exact ParseRes.none _ H 8, ?_⟩
                  repeat' (first | exact HBr.out.trans Hb5.out | refine Bl.drew ?_ | refine Bl.setCell ?_ (by simp) _)
              · have HX := Lib.hid (HGo.out (by
                  rw [HBad.out, hd, hle]
                  rcases Nat.eq_zero_or_pos H with h | h
                  · rw [h]; simp
                  · have : ln.length = W := by
                      by_cases h2 : ln.length = W
                      · exact h2
                      · exact absurd ⟨h, h2⟩ hw
                    simp [this]))
                have hgd : (¬ 0 < (H : Int) ∧ True) ∨ (0 < (H : Int) ∧ ((ln.length : Int) != (W : Int)) = false) := by
                  rcases Nat.eq_zero_or_pos H with h | h
                  · exact Or.inl ⟨by omega, trivial⟩
                  · refine Or.inr ⟨by omega, ?_⟩
                    have : ln.length = W := by
                      by_cases h2 : ln.length = W
                      · exact h2
                      · exact absurd ⟨h, h2⟩ hw
                    simp [this]
                have hx3 : (⟨ln.toArray⟩ : ByteArray).size = ln.length := Lib.size_mk ln
                have hb6 : Bl w (w5.setCell ⟨w.heap.size + 1, 0, none⟩ (.int .i64 (ln.length : Int))) := (HBr.out.trans Hb5.out).setCell (by simp) _
                have hb6b : Blk (w5.setCell ⟨w.heap.size + 1, 0, none⟩ (.int .i64 (ln.length : Int))) (w.heap.size + 1) 24 #[.int .i64 ln.length, .int .i64 H, R] := by simpa using (HB2.out.bl Hb5.out).set_ 0 (.int .i64 (ln.length : Int))
                have hb6a : Blk (w5.setCell ⟨w.heap.size + 1, 0, none⟩ (.int .i64 (ln.length : Int))) w.heap.size 24 #[.int .i64 0, .int .i64 0, .slice none 0 0] := (HB1.out.bl Hb5.out).far (by simp) _
                have ho6 : (w5.setCell ⟨w.heap.size + 1, 0, none⟩ (.int .i64 (ln.length : Int))).ownsRow (w.heap.size + 2) 4 1 R P.length (P.map .bool) := ownsRow_setCell_below (own_bl HOwn.out Hb5.out) (by simp) _
                have hw6 : w.heap.size + 2 ≤ (w5.setCell ⟨w.heap.size + 1, 0, none⟩ (.int .i64 (ln.length : Int))).heap.size := by have h1 := HWs.out; have h2 := Hb5.out.le; simp; omega
                have H6 := Lib.hid hb6; have H6b := Lib.hid hb6b; have H6a := Lib.hid hb6a; have Ho6 := Lib.hid ho6; have Hw6 := Lib.hid hw6
                clear hb6 hb6b hb6a ho6 hw6 hw
                rcases hgd with ⟨hx1, _⟩ | ⟨hx1, hx2⟩
                all_goals
                  go_wp2_with fail
                  go_loopw [58] (fun u wi => ∃ (i : Nat) (R' : Value), i ≤ ln.length ∧ u = .int .i64 i ∧ Bl w wi ∧ Blk wi w.heap.size 24 #[.int .i64 0, .int .i64 0, .slice none 0 0] ∧ Blk wi (w.heap.size + 1) 24 #[.int .i64 ln.length, .int .i64 H, R'] ∧
                    wi.ownsRow (w.heap.size + 2) 4 1 R' (P.length + i) ((P ++ (ln.take i).map (· == 35)).map .bool) ∧ w.heap.size + 2 ≤ wi.heap.size) (fun u _ => ln.length - (RowKit.intOf u).toNat)
                  case atStart => exact ⟨0, R, Nat.zero_le _, rfl, H6.out, H6a.out, H6b.out, by simpa using Ho6.out, Hw6.out⟩
                  case round =>
                    rename World => wi
                    obtain ⟨i, R', hi, rfl, hbi, hb1i, hb2i, hoi, hwi⟩ := hrel
                    clear k25 k15 H6 H6a H6b Ho6 Hw6
                    by_cases hlt : i < ln.length
                    · have hgx : ∀ h, ln[i]? = some ((⟨ln.toArray⟩ : ByteArray)[i]'h) := fun h => Lib.getElem_mk ln i h
                      have hih : i < (⟨ln.toArray⟩ : ByteArray).size := by rw [hx3]; exact hlt
                      have hgi := hgx hih
                      obtain ⟨c, hc⟩ : ∃ c, c = (⟨ln.toArray⟩ : ByteArray)[i]'hih := ⟨_, rfl⟩
                      rw [← hc] at hgi
                      have htk : (P ++ (ln.take (i + 1)).map (· == 35)).map Value.bool = (P ++ (ln.take i).map (· == 35)).map Value.bool ++ [.bool ((c.toNat : Int) == 35)] := by
                        rw [List.take_add_one, hgi, u8_is35]
                        simp
                      have Htk := Lib.hid htk
                      have ki := hb2i.all3
                      have Hbi := Lib.hid hbi; have Hb1i := Lib.hid hb1i; have Hb2i := Lib.hid hb2i; have Hwi := Lib.hid hwi
                      clear htk hgx hgi hbi hb1i hb2i hwi
                      have hc' := hc.symm
                      clear hc
                      go_wp2_with fail
                      refine wp_region_flow [(true, 0), (true, 1), (true, 2), (true, 3), (true, 4), (true, 5), (false, 6), (false, 7), (true, 8), (false, 9)] (fun i => i == 7 || i == 9) (by kernel_rfl) (by kernel_rfl) (by kernel_rfl) (by kernel_rfl) ?_
                      iterate 1
                        apply Flow.calm2 _ _ rfl rfl
                        · intro w' hb' K' hK'
                          obtain ⟨hc', hf'⟩ := hb'.rule
                          go_simp
                          try go_ints
                          exact hK'
                        · intro K' hK'
                          simp only [Act.put, List.setIfInBounds_toArray, List.set_cons_zero, List.set_cons_succ]
                          exact hK'
                      iterate 1
                        apply Flow.calm2 _ _ rfl rfl
                        · intro w' hb' K' hK'
                          obtain ⟨hc', hf'⟩ := hb'.rule
                          go_simp
                          try go_ints
                          exact hK'
                        · intro K' hK'
                          simp only [Act.put, List.setIfInBounds_toArray, List.set_cons_zero, List.set_cons_succ]
                          exact hK'
                      iterate 2
                        apply Flow.mv _ rfl
                        · intro K' hK'
                          simp only [Act.put, Act.eval, List.setIfInBounds_toArray, List.set_cons_zero, List.set_cons_succ, arr_getD, List.getD_cons_zero, List.getD_cons_succ]
                          exact hK'
                      iterate 1
                        apply Flow.calm2 _ _ rfl rfl
                        · intro w' hb' K' hK'
                          obtain ⟨hc', hf'⟩ := hb'.rule
                          go_simp
                          try go_ints
                          exact hK'
                        · intro K' hK'
                          simp only [Act.put, List.setIfInBounds_toArray, List.set_cons_zero, List.set_cons_succ]
                          exact hK'
                      iterate 1
                        apply Flow.calm2 _ _ rfl rfl
                        · intro w' hb' K' hK'
                          obtain ⟨hc', hf'⟩ := hb'.rule
                          go_simp
                          try go_ints
                          exact hK'
                        · intro K' hK'
                          simp only [Act.put, List.setIfInBounds_toArray, List.set_cons_zero, List.set_cons_succ]
                          exact hK'
                      apply Flow.move rfl
                      go_wp2_with fail
                      refine ⟨fun _ => ?_, ?_⟩
                      · repeat' (first | exact Bl.refl _ | refine Bl.drewL ?_ | refine Bl.drew ?_ | refine Bl.alloc ?_ _)
                      apply Flow.move rfl
                      refine wpList_append_one rfl (.tmp 62) (.tmp 67) 22 rfl 4 (.bool false) 1 Tryd.underlying22 info_bool rfl (w.heap.size + 2) R' (P.length + i) _ rfl _ rfl rfl Hbi.out.drew (by omega) Hwi.out (own_bl hoi (Bl.refl _).drew) (by omega) (by unfold maxLen; omega) ?_
                      intro v' w8 hown' hbw8 hg8
                      obtain ⟨A', c8, rfl, _⟩ := own_reads hown'
                      have hne : ∀ g, g < w.heap.size + 2 → some g ≠ R'.ownBlock := fun g hg e => by have := (hoi.lt g e.symm).1; omega
                      have hb1' := (Hb1i.out.drew.alloc _).grown hg8 (hne _ (by omega))
                      have hb2' := (Hb2i.out.drew.alloc _).grown hg8 (hne _ (by omega))
                      have k8 := hb2'.all3
                      have hs8 : w.heap.size + 2 ≤ w8.heap.size := by have h5 := hg8.size; have := Hwi.out; simp at h5; omega
                      have hst : Bl w (w8.setCell ⟨w.heap.size + 1, 2, none⟩ (.slice A' (P.length + i + 1) c8)) ∧ Blk (w8.setCell ⟨w.heap.size + 1, 2, none⟩ (.slice A' (P.length + i + 1) c8)) w.heap.size 24 #[.int .i64 0, .int .i64 0, .slice none 0 0] ∧ Blk (w8.setCell ⟨w.heap.size + 1, 2, none⟩ (.slice A' (P.length + i + 1) c8)) (w.heap.size + 1) 24 #[.int .i64 ln.length, .int .i64 H, .slice A' (P.length + i + 1) c8] ∧
                          (w8.setCell ⟨w.heap.size + 1, 2, none⟩ (.slice A' (P.length + i + 1) c8)).ownsRow (w.heap.size + 2) 4 1 (.slice A' (P.length + i + 1) c8) (P.length + (i + 1)) ((P ++ (ln.take (i + 1)).map (· == 35)).map .bool) ∧ w.heap.size + 2 ≤ (w8.setCell ⟨w.heap.size + 1, 2, none⟩ (.slice A' (P.length + i + 1) c8)).heap.size := by
                        refine ⟨hbw8.setCell (by simp) _, hb1'.far (by simp) _, by simpa using hb2'.set_ 2 (.slice A' (P.length + i + 1) c8), ?_, by simpa using hs8⟩
                        rw [Htk.out]
                        exact ownsRow_setCell_below hown' (by simp) _
                      have Hst := Lib.hid hst
                      clear hst hb1' hb2' hown' hg8 hne hbw8 hs8
                      go_wp2_with fail
                      refine ⟨fun hcl => absurd hcl (by decide), ?_⟩
                      iterate 1
                        apply Flow.calm2 _ _ rfl rfl
                        · intro w' hb' K' hK'
                          obtain ⟨hc', hf'⟩ := hb'.rule
                          go_simp
                          try go_ints
                          exact hK'
                        · intro K' hK'
                          simp only [Act.put, List.setIfInBounds_toArray, List.set_cons_zero, List.set_cons_succ]
                          exact hK'
                      refine Flow.tail _ rfl ?_
                      go_wp2_with fail
                      exact ⟨⟨i + 1, _, hlt, by go_num, Hst.out⟩, by simp [RowKit.intOf]; omega⟩
                    · obtain rfl : i = ln.length := by omega
                      rw [List.take_length] at hoi
                      have ki := hb2i.all3
                      have hst : Bl w (wi.setCell ⟨w.heap.size + 1, 1, none⟩ (.int .i64 ((H : Int) + 1))) ∧ Blk (wi.setCell ⟨w.heap.size + 1, 1, none⟩ (.int .i64 ((H : Int) + 1))) w.heap.size 24 #[.int .i64 0, .int .i64 0, .slice none 0 0] ∧ Blk (wi.setCell ⟨w.heap.size + 1, 1, none⟩ (.int .i64 ((H : Int) + 1))) (w.heap.size + 1) 24 #[.int .i64 ln.length, .int .i64 ((H + 1 : Nat) : Int), R'] ∧
                          (wi.setCell ⟨w.heap.size + 1, 1, none⟩ (.int .i64 ((H : Int) + 1))).ownsRow (w.heap.size + 2) 4 1 R' (P ++ ln.map (· == 35)).length ((P ++ ln.map (· == 35)).map .bool) ∧ w.heap.size + 2 ≤ (wi.setCell ⟨w.heap.size + 1, 1, none⟩ (.int .i64 ((H : Int) + 1))).heap.size := by
                        refine ⟨hbi.setCell (by simp) _, hb1i.far (by simp) _, by simpa using hb2i.set_ 1 (.int .i64 ((H : Int) + 1)), ?_, by simpa using hwi⟩
                        have e : (P ++ ln.map (· == 35)).length = P.length + ln.length := by simp
                        rw [e]
                        exact ownsRow_setCell_below hoi (by simp) _
                      have Hst := Lib.hid hst
                      clear hst hbi hb1i hb2i hoi hwi
                      have hrsz : (⟨rs.toArray⟩ : ByteArray).size = rs.length := Lib.size_mk rs
                      have HRs := Lib.hid hrsz
                      clear hrsz
                      go_wp2_with fail
                      exact ⟨⟨rs, ln.length, H + 1, P ++ ln.map (· == 35), R', rfl, HX.out.symm.trans HLeft.out, Hst.out.1, Hst.out.2.1, Hst.out.2.2.1, Hst.out.2.2.2.1, Hst.out.2.2.2.2, by have h1 := HHt.out; have h2 := HL0.out; omega, by have h1 := HHt.out; have h2 := HL0.out; simp; omega, by have h1 := HHt.out; have h2 := HL0.out; omega⟩, by rw [Lib.strSize_string, Lib.strSize_string, HRs.out, HSz.out]; have h2 := HL0.out; omega⟩
          · have HX := Lib.hid (HErr.out (by rw [HBad.out, hle]; rfl))
            go_wp2_with fail
            go_region
            all_goals
              go_wp2_with fail
              refine bodyPost_ret (v := .tuple #[.agg #[.int .i64 0, .int .i64 0, .slice none 0 0], .int .i64 H, .int .i64 8]) (by simp [results, Tryd.results45, go_sem, k14]) rfl ⟨by rw [HP.out, ← HLeft.out, HX.out]; exact ParseRes.none _ H 8, ?_⟩
              repeat' (first | exact HBr.out.trans Hb4.out | refine Bl.drew ?_ | refine Bl.setCell ?_ (by simp) _)
      · have HF := Lib.hid (leftP_nil (W := W) (H := H) (P := P) he)
        obtain ⟨A, c, rfl, hrd⟩ := own_reads hown
        have k2 := hb2.all3
        have k1 := hb1.all3
        have HBr := Lib.hid hbr; have HRd := Lib.hid hrd; have HOwn := Lib.hid hown
        have HRN := Lib.hid (own_new hown)
        clear hbr hrd hown hb2 hb1
        by_cases h0 : H = 0
        · have HX := Lib.hid (show leftP t' W H P = (0, 0, [], 0, 9) by rw [HF.out, h0]; exact finP_none)
          have hx1 : ((H : Int) == 0) = true := by simp [h0]
          clear h0
          go_wp2_with fail
          refine bodyPost_ret (v := .tuple #[.agg #[.int .i64 0, .int .i64 0, .slice none 0 0], .int .i64 0, .int .i64 9]) (by simp [results, Tryd.results45, go_sem, k1]) rfl ⟨by rw [HP.out, ← HLeft.out, HX.out]; exact ParseRes.none _ 0 9, ?_⟩
          exact (((HBr.out.setCell (by simp) _).setCell (by simp) _).setCell (by simp) _)
        · have hx1 : ((H : Int) == 0) = false := by simp [h0]
          by_cases hL : 200 < H ∨ 200 < W
          · have HX := Lib.hid (show leftP t' W H P = (0, 0, [], 0, 4) by rw [HF.out]; exact finP_large h0 hL)
            rcases (show 200 < (H : Int) ∨ (¬ 200 < (H : Int) ∧ 200 < (W : Int)) by omega) with hx2 | ⟨hx2, hx3⟩
            all_goals
              clear hL h0
              go_wp2_with fail
              refine bodyPost_ret (v := .tuple #[.agg #[.int .i64 0, .int .i64 0, .slice none 0 0], .int .i64 0, .int .i64 4]) (by simp [results, Tryd.results45, go_sem, k1]) rfl ⟨by rw [HP.out, ← HLeft.out, HX.out]; exact ParseRes.none _ 0 4, ?_⟩
              exact (((HBr.out.setCell (by simp) _).setCell (by simp) _).setCell (by simp) _)
          · have HX := Lib.hid (show leftP t' W H P = (W, H, P, 0, 0) by rw [HF.out]; exact finP_ok h0 hL)
            have hx2 : ¬ 200 < (H : Int) := by omega
            have hx3 : ¬ 200 < (W : Int) := by omega
            clear hL h0
            obtain ⟨A', c', e', hr', hn'⟩ := HRN.out
            have hn2 : ∀ ad, A = some ad → w.heap.size + 2 ≤ ad.block := fun ad h => by
              injection e' with e1 e2 e3
              exact hn' ad (by rw [← e1]; exact h)
            have hst3 : Reads (((wr.setCell ⟨w.heap.size, 0, none⟩ (.int .i64 W)).setCell ⟨w.heap.size, 1, none⟩ (.int .i64 H)).setCell ⟨w.heap.size, 2, none⟩ (.slice A P.length c)) 1 A P.length (P.map .bool) :=
              ((HRd.out.store (p := ⟨w.heap.size, 0, none⟩) hn2 (by show w.heap.size < w.heap.size + 2; omega) (.int .i64 W)).store (p := ⟨w.heap.size, 1, none⟩) hn2 (by show w.heap.size < w.heap.size + 2; omega) (.int .i64 H)).store (p := ⟨w.heap.size, 2, none⟩) hn2 (by show w.heap.size < w.heap.size + 2; omega) (.slice A P.length c)
            have Hst3 := Lib.hid hst3
            clear hst3 hn2 hr' hn' e'
            go_wp2_with fail
            refine bodyPost_ret (v := .tuple #[.agg #[.int .i64 W, .int .i64 H, .slice A P.length c], .int .i64 0, .int .i64 0]) (by simp [results, Tryd.results45, go_sem, k1]) rfl ⟨by rw [HP.out, ← HLeft.out, HX.out]; exact ⟨A, c, rfl, Hst3.out⟩, ?_⟩
            exact (((HBr.out.setCell (by simp) _).setCell (by simp) _).setCell (by simp) _)

end Go.Proofs.YtkhajhcfplicpaaDoor
