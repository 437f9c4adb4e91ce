/- glyph.Pieces. -/
import Derived.Test.YtjelhdpcaileiaaDoorU2
import Derived.Test.YtjelhdpcaileiaaDoorU13

namespace Go.Proofs.YtjelhdpcaileiaaDoor
open Go.RowKit

theorem info_box : (Tryd.prog.info? 88).map (fun i => (i.zero, i.size, i.bytes)) = some (some (.agg #[.int .i64 0, .int .i64 0, .int .i64 0, .int .i64 0]), 4, 32) := by kernel_rfl
theorem own_cell {w : World} {base : Nat} {e : TypeId} {size n g cap : Nat} {xs : List Value} (h : w.ownsRow base e size (.slice (some ⟨g, 0, none⟩) n cap) n xs) {j : Nat} {u : Value} (hj : xs[j]? = some u) : w.cell? ⟨g, j, none⟩ = some u := by
  obtain ⟨A, c, e2, hr⟩ := own_reads h
  injection e2 with e1 _ _
  subst e1
  have hlt : j < xs.length := (List.getElem?_eq_some_iff.1 hj).1
  have hn : 0 < n := by
    rcases Nat.eq_zero_or_pos n with h0 | h0
    · have := hr.1; rw [h0, Nat.zero_mul] at this; omega
    · exact h0
  obtain ⟨ad, e3, hc⟩ := hr.2 hn
  injection e3 with e3
  subst e3
  have := hc j u hj
  rwa [add_flat] at this
set_option maxRecDepth 100000 in
set_option maxHeartbeats 4000000 in
theorem glyphPieces_any (W H : Int) (A : Option Addr) (an ac : Nat) (bs : List Bool) (w : World) (hA : Reads w 1 A an (bs.map .bool)) :
    Calls Tryd.prog 49 #[.agg #[.int .i64 W, .int .i64 H, .slice A an ac]] w fun e w' => ∃ R m d, e = .returned (.tuple #[.slice R m d, .int .i64 (pageErr W H an)]) ∧ (pageErr W H an ≠ 0 → R = none ∧ m = 0) ∧
      (pageErr W H an = 0 → m = (piecesTo (colN bs W.toNat H.toNat) W.toNat).length ∧ Reads w' 4 R m (boxCells H.toNat (piecesTo (colN bs W.toNat H.toNat) W.toNat))) ∧ Bl w w' := by
  let w2 := (w).alloc (.cells #[.int .i64 W, .int .i64 H, .slice A an ac] 27)
  have w2b : Bl w w2 := (Bl.refl w).alloc _
  have w21 : Blk w2 (w.heap.size) 27 #[.int .i64 W, .int .i64 H, .slice A an ac] := by
    have h0 := Blk.new (w) 27 #[.int .i64 W, .int .i64 H, .slice A an ac]
    exact h0
  have lw2 : w2.heap.size = w.heap.size + 1 := by simp [w2]
  have Hcs := Lib.hid (columns_any W H A an ac bs w2 (hA.bl w2b))
  have k1 := w21.all3
  clear hA
  go_enter Tryd.func49, Tryd.ntmps49
  go_wp2_with fail
  refine Hcs.out.mono ?_
  rintro e w3 ⟨P, m, c, rfl, hT, hb3⟩
  clear_value w2
  clear Hcs k1
  by_cases hz : pageErr W H an = 0
  case neg =>
    have hq : (pageErr W H an == 0) = false := by simp [hz]
    have HZ := Lib.hid hz
    clear hz hT
    go_wp2_with fail
    refine bodyPost_ret (v := .tuple #[.slice none 0 0, .int .i64 (pageErr W H an)]) (by simp [results, Tryd.results49, go_sem]) rfl ⟨none, 0, 0, rfl, fun _ => ⟨rfl, rfl⟩, fun h => absurd h HZ.out, w2b.trans hb3⟩
  case pos =>
    have HZ := Lib.hid hz
    rw [hz]
    have hT1 := hT.1 hz
    obtain ⟨W, H, rfl, rfl, rfl, hW, hH, hWH⟩ := page_nat hz
    simp only [Int.toNat_natCast] at hT1
    obtain ⟨rfl, hP⟩ := hT1
    obtain ⟨f, hf⟩ : ∃ f, f = colN bs m H := ⟨_, rfl⟩
    have hfl : ∀ k, f k ≤ 4000 := fun k => by rw [hf]; have := colN_le bs m H k; omega
    have hcol : colI bs m H = fun k => ((f k : Nat) : Int) := by rw [hf]; rfl
    rw [hcol] at hP
    have k1 := (w21.bl hb3).all3
    have h0 : w3.ownsRow w3.heap.size 88 4 (.slice none 0 0) (piecesTo f 0).length (boxCells H (piecesTo f 0)) := World.ownsRow_nil _ _ _ _
    have HP := Lib.hid hP; have HF := Lib.hid hf; have HFl := Lib.hid hfl
    clear hz hP hf hcol hT hfl
    go_wp2_with fail
    go_loopw [20, 6] (fun u v wr => ∃ k : Nat, k ≤ m ∧ u = .int .i64 k ∧ Bl w3 wr ∧ wr.ownsRow w3.heap.size 88 4 v (piecesTo f k).length (boxCells H (piecesTo f k))) (fun u _ _ => m - (RowKit.intOf u).toNat)
    case atStart => exact ⟨0, Nat.zero_le _, rfl, Bl.refl _, h0⟩
    case round =>
      clear k1
      obtain ⟨k, hk, rfl, hbr, hown⟩ := hrel
      obtain ⟨R0, c0, rfl, -, -⟩ := own_new hown
      have k1 := (w21.bl (hb3.trans hbr)).all3
      have hpl := pieces_len f k
      have HOwn := Lib.hid hown
      by_cases hlt : k < m
      · obtain ⟨ad, u, rfl, hu, hc⟩ := (HP.out.bl hbr).at_ hlt
        have hu' : u = .int .i64 ((f k : Nat) : Int) := by
          rw [List.getElem?_map, tabL_get _ hlt] at hu
          exact (Option.some.inj hu).symm
        subst hu'
        have hnl := HFl.out k
        have hlast := pieces_last f k
        have hin := pieces_in f k
        have hst : piecesTo f (k + 1) = if f k = 0 then piecesTo f k else if ahead f k = true then wider (piecesTo f k) else piecesTo f k ++ [(k, 1)] := rfl
        obtain ⟨n, hn⟩ : ∃ n, n = f k := ⟨_, rfl⟩
        rw [← hn] at hnl hst hc
        have HSt := Lib.hid hst; have HLast := Lib.hid hlast; have HIn := Lib.hid hin
        clear hu hn hst hlast hin
        by_cases hz : n = 0
        · have hq : ((n : Int) == 0) = true := by rw [len0]; exact decide_eq_true hz
          have HN := Lib.hid (show piecesTo f (k + 1) = piecesTo f k by rw [HSt.out, if_pos hz])
          clear hz hown
          go_wp2_with fail
          exact ⟨⟨k + 1, hlt, by go_num, hbr, by rw [HN.out]; exact HOwn.out⟩, by simp [RowKit.intOf] <;> omega⟩
        · have hq : ((n : Int) == 0) = false := by rw [len0]; exact decide_eq_false hz
          cases ha : ahead f k
          · have HN := Lib.hid (show piecesTo f (k + 1) = piecesTo f k ++ [(k, 1)] by rw [HSt.out, if_neg hz, if_neg (by rw [ha]; decide)])
            rcases HLast.out.2 ha with he | ⟨l, p, he, hp⟩
            · have hlen : (piecesTo f k).length = 0 := by rw [he]; rfl
              have hlen0 := Lib.hid hlen
              rw [hlen] at hown ⊢
              have HOw := Lib.hid hown
              clear hown HOwn hz ha he hlen
              go_wp2_with fail
              refine wp_region_flow [(true, 0), (true, 1), (true, 2), (true, 3), (true, 4), (true, 5), (true, 6), (true, 7), (true, 8), (true, 9), (true, 10), (true, 11), (true, 12), (true, 13), (true, 14), (true, 15), (true, 16), (true, 17)] (fun _ => false) (by kernel_rfl) (by kernel_rfl) (by kernel_rfl) (by kernel_rfl) ?_
              iterate 1
                apply Flow.mv _ rfl
                · intro K' hK'
                  simp only [Act.put, Act.eval, List.setIfInBounds_toArray, List.set_cons_zero, List.set_cons_succ, arr_getD, List.getD_cons_zero, List.getD_cons_succ]
                  exact hK'
              iterate 1
                apply Flow.calm2 _ _ rfl rfl
                · intro w' hb' K' hK'
                  obtain ⟨hc', hf'⟩ := hb'.rule
                  go_simp
                  try go_ints
                  exact hK'
                · intro K' hK'
                  simp only [Act.put, List.setIfInBounds_toArray, List.set_cons_zero, List.set_cons_succ]
                  exact hK'
              iterate 1
                apply Flow.mv _ rfl
                · intro K' hK'
                  simp only [Act.put, Act.eval, List.setIfInBounds_toArray, List.set_cons_zero, List.set_cons_succ, arr_getD, List.getD_cons_zero, List.getD_cons_succ]
                  exact hK'
              first
                | (apply Flow.pass rfl (by rfl))
                | (apply Flow.calmG _ rfl (by rfl)
                   · intro w' hb'
                     obtain ⟨hc', hf'⟩ := hb'.rule
                     go_simp
                     all_goals (try rfl))
              simp only [Act.put, List.setIfInBounds_toArray, List.set_cons_zero, List.set_cons_succ]
              try go_ints
              first
                | (apply Flow.pass rfl (by rfl))
                | (apply Flow.calmG _ rfl (by rfl)
                   · intro w' hb'
                     obtain ⟨hc', hf'⟩ := hb'.rule
                     go_simp
                     all_goals (try rfl))
              simp only [Act.put, List.setIfInBounds_toArray, List.set_cons_zero, List.set_cons_succ]
              try go_ints
              first
                | (apply Flow.pass rfl (by rfl))
                | (apply Flow.calmG _ rfl (by rfl)
                   · intro w' hb'
                     obtain ⟨hc', hf'⟩ := hb'.rule
                     go_simp
                     all_goals (try rfl))
              simp only [Act.put, List.setIfInBounds_toArray, List.set_cons_zero, List.set_cons_succ]
              try go_ints
              first
                | (apply Flow.pass rfl (by rfl))
                | (apply Flow.calmG _ rfl (by rfl)
                   · intro w' hb'
                     obtain ⟨hc', hf'⟩ := hb'.rule
                     go_simp
                     all_goals (try rfl))
              simp only [Act.put, List.setIfInBounds_toArray, List.set_cons_zero, List.set_cons_succ]
              try go_ints
              first
                | (apply Flow.pass rfl (by rfl))
                | (apply Flow.calmG _ rfl (by rfl)
                   · intro w' hb'
                     obtain ⟨hc', hf'⟩ := hb'.rule
                     go_simp
                     all_goals (try rfl))
              simp only [Act.put, List.setIfInBounds_toArray, List.set_cons_zero, List.set_cons_succ]
              try go_ints
              first
                | (apply Flow.pass rfl (by rfl))
                | (apply Flow.calmG _ rfl (by rfl)
                   · intro w' hb'
                     obtain ⟨hc', hf'⟩ := hb'.rule
                     go_simp
                     all_goals (try rfl))
              simp only [Act.put, List.setIfInBounds_toArray, List.set_cons_zero, List.set_cons_succ]
              try go_ints
              first
                | (apply Flow.pass rfl (by rfl))
                | (apply Flow.calmG _ rfl (by rfl)
                   · intro w' hb'
                     obtain ⟨hc', hf'⟩ := hb'.rule
                     go_simp
                     all_goals (try rfl))
              simp only [Act.put, List.setIfInBounds_toArray, List.set_cons_zero, List.set_cons_succ]
              try go_ints
              first
                | (apply Flow.pass rfl (by rfl))
                | (apply Flow.calmG _ rfl (by rfl)
                   · intro w' hb'
                     obtain ⟨hc', hf'⟩ := hb'.rule
                     go_simp
                     all_goals (try rfl))
              simp only [Act.put, List.setIfInBounds_toArray, List.set_cons_zero, List.set_cons_succ]
              try go_ints
              first
                | (apply Flow.pass rfl (by rfl))
                | (apply Flow.calmG _ rfl (by rfl)
                   · intro w' hb'
                     obtain ⟨hc', hf'⟩ := hb'.rule
                     go_simp
                     all_goals (try rfl))
              simp only [Act.put, List.setIfInBounds_toArray, List.set_cons_zero, List.set_cons_succ]
              try go_ints
              first
                | (apply Flow.pass rfl (by rfl))
                | (apply Flow.calmG _ rfl (by rfl)
                   · intro w' hb'
                     obtain ⟨hc', hf'⟩ := hb'.rule
                     go_simp
                     all_goals (try rfl))
              simp only [Act.put, List.setIfInBounds_toArray, List.set_cons_zero, List.set_cons_succ]
              try go_ints
              first
                | (apply Flow.pass rfl (by rfl))
                | (apply Flow.calmG _ rfl (by rfl)
                   · intro w' hb'
                     obtain ⟨hc', hf'⟩ := hb'.rule
                     go_simp
                     all_goals (try rfl))
              simp only [Act.put, List.setIfInBounds_toArray, List.set_cons_zero, List.set_cons_succ]
              try go_ints
              first
                | (apply Flow.pass rfl (by rfl))
                | (apply Flow.calmG _ rfl (by rfl)
                   · intro w' hb'
                     obtain ⟨hc', hf'⟩ := hb'.rule
                     go_simp
                     all_goals (try rfl))
              simp only [Act.put, List.setIfInBounds_toArray, List.set_cons_zero, List.set_cons_succ]
              try go_ints
              first
                | (apply Flow.pass rfl (by rfl))
                | (apply Flow.calmG _ rfl (by rfl)
                   · intro w' hb'
                     obtain ⟨hc', hf'⟩ := hb'.rule
                     go_simp
                     all_goals (try rfl))
              simp only [Act.put, List.setIfInBounds_toArray, List.set_cons_zero, List.set_cons_succ]
              try go_ints
              iterate 1
                apply Flow.calm2 _ _ rfl rfl
                · intro w' hb' K' hK'
                  obtain ⟨hc', hf'⟩ := hb'.rule
                  go_simp
                  try go_ints
                  exact hK'
                · intro K' hK'
                  simp only [Act.put, List.setIfInBounds_toArray, List.set_cons_zero, List.set_cons_succ]
                  exact hK'
              iterate 1
                apply Flow.asg _ rfl
                · intro K' hK'
                  simp only [Act.put, Act.eval, List.setIfInBounds_toArray, List.set_cons_zero, List.set_cons_succ, arr_getD, List.getD_cons_zero, List.getD_cons_succ]
                  exact hK'
              refine Flow.done ?_
              go_wp2_with (at_builtin; refine wpList_append_bl (w1 := w3) rfl (.tmp 28) (.tmp 33) 83 rfl 88 (.agg #[.int .i64 0, .int .i64 0, .int .i64 0, .int .i64 0]) 4 32 Tryd.underlying83 info_box rfl (by omega) w3.heap.size _ 0 (boxCells H (piecesTo f k)) rfl (hbr.drew.alloc _) ?hB ?hBr ((own_bl HOw.out (Bl.refl _).drew).alloc _) (some ⟨wr.heap.size, 0, none⟩) 1 1 [.int .i64 k, .int .i64 0, .int .i64 1, .int .i64 H] rfl ((Blk.new _ _ _).reads 1 4 rfl) ?h1 ?c1 ?c2 ?_)
              case hB => exact Nat.le_refl _
              case hBr => have := hbr.le; first | omega | (simp; omega)
              case h1 => simp [Value.oneCell']
              case c1 => unfold maxLen; omega
              case c2 => omega
              intro v' w8 hown8 hb8 hg8
              have hcat : boxCells H (piecesTo f k) ++ [.int .i64 k, .int .i64 0, .int .i64 1, .int .i64 H] = boxCells H (piecesTo f (k + 1)) := by rw [HN.out, boxCells_append]; rfl
              rw [hcat] at hown8
              have hlen2 : (piecesTo f (k + 1)).length = 0 + 1 := by rw [HN.out, List.length_append, hlen0.out]; rfl
              have HO8 := Lib.hid hown8; have HL2 := Lib.hid hlen2
              clear hown8 hcat hlen2
              go_wp2_with fail
              exact ⟨⟨k + 1, hlt, by go_num, hb8, by rw [HL2.out]; exact HO8.out⟩, by simp [RowKit.intOf] <;> omega⟩
            · obtain ⟨N, hN⟩ : ∃ N, N = l.length := ⟨_, rfl⟩
              have hlen : (piecesTo f k).length = N + 1 := by rw [he, hN, List.length_append]; rfl
              have hlen0 := Lib.hid hlen
              rw [hlen] at hown ⊢
              obtain ⟨g, cap, e, hgB, -⟩ := own_some hown (by omega)
              injection e with e1 _ e3
              subst e1
              subst e3
              have hgl : (boxCells H (piecesTo f k))[N * 4 + 0]? = some (.int .i64 p.1) := by rw [boxCells_at (i := N) (p := p) (by rw [he, hN]; simp) 0 (by omega)]; rfl
              have hgw : (boxCells H (piecesTo f k))[N * 4 + 2]? = some (.int .i64 p.2) := by rw [boxCells_at (i := N) (p := p) (by rw [he, hN]; simp) 2 (by omega)]; rfl
              rw [Nat.add_zero] at hgl
              have hc1 := own_cell hown hgl
              have hc2 := own_cell hown hgw
              have hpi := HIn.out p (by rw [he]; simp)
              have q3 : ((p.1 : Int) + (p.2 : Int) == (k : Int)) = false := by simp; omega
              obtain ⟨px, hpx⟩ : ∃ x, x = p.1 := ⟨_, rfl⟩
              obtain ⟨pw, hpw⟩ : ∃ x, x = p.2 := ⟨_, rfl⟩
              rw [← hpx, ← hpw] at q3 hpi
              rw [← hpx] at hc1
              rw [← hpw] at hc2
              have hNN : (N : Int) < (N : Int) + 1 := by omega
              have HOw := Lib.hid hown
              rw [hlen] at hpl
              clear hown HOwn hz ha he hgl hgw hp hpx hpw hN hlen
              go_wp2_with fail
              refine wp_region_flow [(true, 0), (true, 1), (true, 2), (true, 3), (true, 4), (true, 5), (true, 6), (true, 7), (true, 8), (true, 9), (true, 10), (true, 11), (true, 12), (true, 13), (true, 14), (true, 15), (true, 16), (true, 17)] (fun _ => false) (by kernel_rfl) (by kernel_rfl) (by kernel_rfl) (by kernel_rfl) ?_
              iterate 1
                apply Flow.mv _ rfl
                · intro K' hK'
                  simp only [Act.put, Act.eval, List.setIfInBounds_toArray, List.set_cons_zero, List.set_cons_succ, arr_getD, List.getD_cons_zero, List.getD_cons_succ]
                  exact hK'
              iterate 1
                apply Flow.calm2 _ _ rfl rfl
                · intro w' hb' K' hK'
                  obtain ⟨hc', hf'⟩ := hb'.rule
                  go_simp
                  try go_ints
                  exact hK'
                · intro K' hK'
                  simp only [Act.put, List.setIfInBounds_toArray, List.set_cons_zero, List.set_cons_succ]
                  exact hK'
              iterate 1
                apply Flow.mv _ rfl
                · intro K' hK'
                  simp only [Act.put, Act.eval, List.setIfInBounds_toArray, List.set_cons_zero, List.set_cons_succ, arr_getD, List.getD_cons_zero, List.getD_cons_succ]
                  exact hK'
              first
                | (apply Flow.pass rfl (by rfl))
                | (apply Flow.calmG _ rfl (by rfl)
                   · intro w' hb'
                     obtain ⟨hc', hf'⟩ := hb'.rule
                     go_simp
                     all_goals (try rfl))
              simp only [Act.put, List.setIfInBounds_toArray, List.set_cons_zero, List.set_cons_succ]
              try go_ints
              first
                | (apply Flow.pass rfl (by rfl))
                | (apply Flow.calmG _ rfl (by rfl)
                   · intro w' hb'
                     obtain ⟨hc', hf'⟩ := hb'.rule
                     go_simp
                     all_goals (try rfl))
              simp only [Act.put, List.setIfInBounds_toArray, List.set_cons_zero, List.set_cons_succ]
              try go_ints
              first
                | (apply Flow.pass rfl (by rfl))
                | (apply Flow.calmG _ rfl (by rfl)
                   · intro w' hb'
                     obtain ⟨hc', hf'⟩ := hb'.rule
                     go_simp
                     all_goals (try rfl))
              simp only [Act.put, List.setIfInBounds_toArray, List.set_cons_zero, List.set_cons_succ]
              try go_ints
              first
                | (apply Flow.pass rfl (by rfl))
                | (apply Flow.calmG _ rfl (by rfl)
                   · intro w' hb'
                     obtain ⟨hc', hf'⟩ := hb'.rule
                     go_simp
                     all_goals (try rfl))
              simp only [Act.put, List.setIfInBounds_toArray, List.set_cons_zero, List.set_cons_succ]
              try go_ints
              first
                | (apply Flow.pass rfl (by rfl))
                | (apply Flow.calmG _ rfl (by rfl)
                   · intro w' hb'
                     obtain ⟨hc', hf'⟩ := hb'.rule
                     go_simp
                     all_goals (try rfl))
              simp only [Act.put, List.setIfInBounds_toArray, List.set_cons_zero, List.set_cons_succ]
              try go_ints
              first
                | (apply Flow.pass rfl (by rfl))
                | (apply Flow.calmG _ rfl (by rfl)
                   · intro w' hb'
                     obtain ⟨hc', hf'⟩ := hb'.rule
                     go_simp
                     all_goals (try rfl))
              simp only [Act.put, List.setIfInBounds_toArray, List.set_cons_zero, List.set_cons_succ]
              try go_ints
              first
                | (apply Flow.pass rfl (by rfl))
                | (apply Flow.calmG _ rfl (by rfl)
                   · intro w' hb'
                     obtain ⟨hc', hf'⟩ := hb'.rule
                     go_simp
                     all_goals (try rfl))
              simp only [Act.put, List.setIfInBounds_toArray, List.set_cons_zero, List.set_cons_succ]
              try go_ints
              first
                | (apply Flow.pass rfl (by rfl))
                | (apply Flow.calmG _ rfl (by rfl)
                   · intro w' hb'
                     obtain ⟨hc', hf'⟩ := hb'.rule
                     go_simp
                     all_goals (try rfl))
              simp only [Act.put, List.setIfInBounds_toArray, List.set_cons_zero, List.set_cons_succ]
              try go_ints
              first
                | (apply Flow.pass rfl (by rfl))
                | (apply Flow.calmG _ rfl (by rfl)
                   · intro w' hb'
                     obtain ⟨hc', hf'⟩ := hb'.rule
                     go_simp
                     all_goals (try rfl))
              simp only [Act.put, List.setIfInBounds_toArray, List.set_cons_zero, List.set_cons_succ]
              try go_ints
              first
                | (apply Flow.pass rfl (by rfl))
                | (apply Flow.calmG _ rfl (by rfl)
                   · intro w' hb'
                     obtain ⟨hc', hf'⟩ := hb'.rule
                     go_simp
                     all_goals (try rfl))
              simp only [Act.put, List.setIfInBounds_toArray, List.set_cons_zero, List.set_cons_succ]
              try go_ints
              first
                | (apply Flow.pass rfl (by rfl))
                | (apply Flow.calmG _ rfl (by rfl)
                   · intro w' hb'
                     obtain ⟨hc', hf'⟩ := hb'.rule
                     go_simp
                     all_goals (try rfl))
              simp only [Act.put, List.setIfInBounds_toArray, List.set_cons_zero, List.set_cons_succ]
              try go_ints
              first
                | (apply Flow.pass rfl (by rfl))
                | (apply Flow.calmG _ rfl (by rfl)
                   · intro w' hb'
                     obtain ⟨hc', hf'⟩ := hb'.rule
                     go_simp
                     all_goals (try rfl))
              simp only [Act.put, List.setIfInBounds_toArray, List.set_cons_zero, List.set_cons_succ]
              try go_ints
              first
                | (apply Flow.pass rfl (by rfl))
                | (apply Flow.calmG _ rfl (by rfl)
                   · intro w' hb'
                     obtain ⟨hc', hf'⟩ := hb'.rule
                     go_simp
                     all_goals (try rfl))
              simp only [Act.put, List.setIfInBounds_toArray, List.set_cons_zero, List.set_cons_succ]
              try go_ints
              iterate 1
                apply Flow.calm2 _ _ rfl rfl
                · intro w' hb' K' hK'
                  obtain ⟨hc', hf'⟩ := hb'.rule
                  go_simp
                  try go_ints
                  exact hK'
                · intro K' hK'
                  simp only [Act.put, List.setIfInBounds_toArray, List.set_cons_zero, List.set_cons_succ]
                  exact hK'
              iterate 1
                apply Flow.asg _ rfl
                · intro K' hK'
                  simp only [Act.put, Act.eval, List.setIfInBounds_toArray, List.set_cons_zero, List.set_cons_succ, arr_getD, List.getD_cons_zero, List.getD_cons_succ]
                  exact hK'
              refine Flow.done ?_
              go_wp2_with (at_builtin; refine wpList_append_bl (w1 := w3) rfl (.tmp 28) (.tmp 33) 83 rfl 88 (.agg #[.int .i64 0, .int .i64 0, .int .i64 0, .int .i64 0]) 4 32 Tryd.underlying83 info_box rfl (by omega) w3.heap.size _ (N + 1) (boxCells H (piecesTo f k)) rfl (hbr.drew.alloc _) ?hB ?hBr ((own_bl HOw.out (Bl.refl _).drew).alloc _) (some ⟨wr.heap.size, 0, none⟩) 1 1 [.int .i64 k, .int .i64 0, .int .i64 1, .int .i64 H] rfl ((Blk.new _ _ _).reads 1 4 rfl) ?h1 ?c1 ?c2 ?_)
              case hB => exact Nat.le_refl _
              case hBr => have := hbr.le; first | omega | (simp; omega)
              case h1 => simp [Value.oneCell']
              case c1 => unfold maxLen; omega
              case c2 => omega
              intro v' w8 hown8 hb8 hg8
              have hcat : boxCells H (piecesTo f k) ++ [.int .i64 k, .int .i64 0, .int .i64 1, .int .i64 H] = boxCells H (piecesTo f (k + 1)) := by rw [HN.out, boxCells_append]; rfl
              rw [hcat] at hown8
              have hlen2 : (piecesTo f (k + 1)).length = (N + 1) + 1 := by rw [HN.out, List.length_append, hlen0.out]; rfl
              have HO8 := Lib.hid hown8; have HL2 := Lib.hid hlen2
              clear hown8 hcat hlen2
              go_wp2_with fail
              exact ⟨⟨k + 1, hlt, by go_num, hb8, by rw [HL2.out]; exact HO8.out⟩, by simp [RowKit.intOf] <;> omega⟩
          · have HN := Lib.hid (show piecesTo f (k + 1) = wider (piecesTo f k) by rw [HSt.out, if_neg hz, if_pos ha])
            obtain ⟨l, p, he, hp⟩ := HLast.out.1 ha
            obtain ⟨N, hN⟩ : ∃ N, N = l.length := ⟨_, rfl⟩
            have hlen : (piecesTo f k).length = N + 1 := by rw [he, hN, List.length_append]; rfl
            rw [hlen] at hown ⊢
            obtain ⟨g, cap, e, hgB, -⟩ := own_some hown (by omega)
            injection e with e1 _ e3
            subst e1
            subst e3
            have hgl : (boxCells H (piecesTo f k))[N * 4 + 0]? = some (.int .i64 p.1) := by rw [boxCells_at (i := N) (p := p) (by rw [he, hN]; simp) 0 (by omega)]; rfl
            have hgw : (boxCells H (piecesTo f k))[N * 4 + 2]? = some (.int .i64 p.2) := by rw [boxCells_at (i := N) (p := p) (by rw [he, hN]; simp) 2 (by omega)]; rfl
            rw [Nat.add_zero] at hgl
            have hc1 := own_cell hown hgl
            have hc2 := own_cell hown hgw
            have hfz := (own_blk hown).2
            have hpi := HIn.out p (by rw [he]; simp)
            have q3 : ((p.1 : Int) + (p.2 : Int) == (k : Int)) = true := by simp; omega
            have hwd : (boxCells H (piecesTo f k)).set (N * 4 + 2) (.int .i64 ((p.2 : Int) + 1)) = boxCells H (piecesTo f (k + 1)) := by rw [HN.out, he, hN]; exact boxCells_wider H l p
            have hlen2 : (piecesTo f (k + 1)).length = N + 1 := by rw [HN.out, wider_length, hlen]
            have hset := ownsRow_set hown (N * 4 + 2) (.int .i64 ((p.2 : Int) + 1))
            rw [hwd] at hset
            obtain ⟨px, hpx⟩ : ∃ x, x = p.1 := ⟨_, rfl⟩
            obtain ⟨pw, hpw⟩ : ∃ x, x = p.2 := ⟨_, rfl⟩
            rw [← hpx, ← hpw] at q3 hpi
            rw [← hpx] at hc1
            rw [← hpw] at hc2 hset
            have HSet := Lib.hid hset; have HL2 := Lib.hid hlen2
            have hgw3 : w3.heap.size ≤ g := hgB
            have hNN : (N : Int) < (N : Int) + 1 := by omega
            rw [hlen] at hpl
            clear hown HOwn hz ha he hgl hgw hp hpx hpw hN hset hwd hlen2 hlen
            go_wp2_with fail
            refine wp_region_flow [(true, 0), (true, 1), (true, 2), (true, 3), (true, 4), (true, 5), (true, 6), (true, 7), (true, 8), (true, 9), (true, 10), (true, 11), (true, 12), (true, 13), (true, 14), (true, 15), (true, 16), (true, 17)] (fun _ => false) (by kernel_rfl) (by kernel_rfl) (by kernel_rfl) (by kernel_rfl) ?_
            iterate 1
              apply Flow.mv _ rfl
              · intro K' hK'
                simp only [Act.put, Act.eval, List.setIfInBounds_toArray, List.set_cons_zero, List.set_cons_succ, arr_getD, List.getD_cons_zero, List.getD_cons_succ]
                exact hK'
            iterate 1
              apply Flow.calm2 _ _ rfl rfl
              · intro w' hb' K' hK'
                obtain ⟨hc', hf'⟩ := hb'.rule
                go_simp
                try go_ints
                exact hK'
              · intro K' hK'
                simp only [Act.put, List.setIfInBounds_toArray, List.set_cons_zero, List.set_cons_succ]
                exact hK'
            iterate 1
              apply Flow.mv _ rfl
              · intro K' hK'
                simp only [Act.put, Act.eval, List.setIfInBounds_toArray, List.set_cons_zero, List.set_cons_succ, arr_getD, List.getD_cons_zero, List.getD_cons_succ]
                exact hK'
            first
              | (apply Flow.pass rfl (by rfl))
              | (apply Flow.calmG _ rfl (by rfl)
                 · intro w' hb'
                   obtain ⟨hc', hf'⟩ := hb'.rule
                   go_simp
                   all_goals (try rfl))
            simp only [Act.put, List.setIfInBounds_toArray, List.set_cons_zero, List.set_cons_succ]
            try go_ints
            first
              | (apply Flow.pass rfl (by rfl))
              | (apply Flow.calmG _ rfl (by rfl)
                 · intro w' hb'
                   obtain ⟨hc', hf'⟩ := hb'.rule
                   go_simp
                   all_goals (try rfl))
            simp only [Act.put, List.setIfInBounds_toArray, List.set_cons_zero, List.set_cons_succ]
            try go_ints
            first
              | (apply Flow.pass rfl (by rfl))
              | (apply Flow.calmG _ rfl (by rfl)
                 · intro w' hb'
                   obtain ⟨hc', hf'⟩ := hb'.rule
                   go_simp
                   all_goals (try rfl))
            simp only [Act.put, List.setIfInBounds_toArray, List.set_cons_zero, List.set_cons_succ]
            try go_ints
            first
              | (apply Flow.pass rfl (by rfl))
              | (apply Flow.calmG _ rfl (by rfl)
                 · intro w' hb'
                   obtain ⟨hc', hf'⟩ := hb'.rule
                   go_simp
                   all_goals (try rfl))
            simp only [Act.put, List.setIfInBounds_toArray, List.set_cons_zero, List.set_cons_succ]
            try go_ints
            first
              | (apply Flow.pass rfl (by rfl))
              | (apply Flow.calmG _ rfl (by rfl)
                 · intro w' hb'
                   obtain ⟨hc', hf'⟩ := hb'.rule
                   go_simp
                   all_goals (try rfl))
            simp only [Act.put, List.setIfInBounds_toArray, List.set_cons_zero, List.set_cons_succ]
            try go_ints
            first
              | (apply Flow.pass rfl (by rfl))
              | (apply Flow.calmG _ rfl (by rfl)
                 · intro w' hb'
                   obtain ⟨hc', hf'⟩ := hb'.rule
                   go_simp
                   all_goals (try rfl))
            simp only [Act.put, List.setIfInBounds_toArray, List.set_cons_zero, List.set_cons_succ]
            try go_ints
            first
              | (apply Flow.pass rfl (by rfl))
              | (apply Flow.calmG _ rfl (by rfl)
                 · intro w' hb'
                   obtain ⟨hc', hf'⟩ := hb'.rule
                   go_simp
                   all_goals (try rfl))
            simp only [Act.put, List.setIfInBounds_toArray, List.set_cons_zero, List.set_cons_succ]
            try go_ints
            first
              | (apply Flow.pass rfl (by rfl))
              | (apply Flow.calmG _ rfl (by rfl)
                 · intro w' hb'
                   obtain ⟨hc', hf'⟩ := hb'.rule
                   go_simp
                   all_goals (try rfl))
            simp only [Act.put, List.setIfInBounds_toArray, List.set_cons_zero, List.set_cons_succ]
            try go_ints
            first
              | (apply Flow.pass rfl (by rfl))
              | (apply Flow.calmG _ rfl (by rfl)
                 · intro w' hb'
                   obtain ⟨hc', hf'⟩ := hb'.rule
                   go_simp
                   all_goals (try rfl))
            simp only [Act.put, List.setIfInBounds_toArray, List.set_cons_zero, List.set_cons_succ]
            try go_ints
            first
              | (apply Flow.pass rfl (by rfl))
              | (apply Flow.calmG _ rfl (by rfl)
                 · intro w' hb'
                   obtain ⟨hc', hf'⟩ := hb'.rule
                   go_simp
                   all_goals (try rfl))
            simp only [Act.put, List.setIfInBounds_toArray, List.set_cons_zero, List.set_cons_succ]
            try go_ints
            first
              | (apply Flow.pass rfl (by rfl))
              | (apply Flow.calmG _ rfl (by rfl)
                 · intro w' hb'
                   obtain ⟨hc', hf'⟩ := hb'.rule
                   go_simp
                   all_goals (try rfl))
            simp only [Act.put, List.setIfInBounds_toArray, List.set_cons_zero, List.set_cons_succ]
            try go_ints
            first
              | (apply Flow.pass rfl (by rfl))
              | (apply Flow.calmG _ rfl (by rfl)
                 · intro w' hb'
                   obtain ⟨hc', hf'⟩ := hb'.rule
                   go_simp
                   all_goals (try rfl))
            simp only [Act.put, List.setIfInBounds_toArray, List.set_cons_zero, List.set_cons_succ]
            try go_ints
            first
              | (apply Flow.pass rfl (by rfl))
              | (apply Flow.calmG _ rfl (by rfl)
                 · intro w' hb'
                   obtain ⟨hc', hf'⟩ := hb'.rule
                   go_simp
                   all_goals (try rfl))
            simp only [Act.put, List.setIfInBounds_toArray, List.set_cons_zero, List.set_cons_succ]
            try go_ints
            iterate 1
              apply Flow.calm2 _ _ rfl rfl
              · intro w' hb' K' hK'
                obtain ⟨hc', hf'⟩ := hb'.rule
                go_simp
                try go_ints
                exact hK'
              · intro K' hK'
                simp only [Act.put, List.setIfInBounds_toArray, List.set_cons_zero, List.set_cons_succ]
                exact hK'
            iterate 1
              apply Flow.asg _ rfl
              · intro K' hK'
                simp only [Act.put, Act.eval, List.setIfInBounds_toArray, List.set_cons_zero, List.set_cons_succ, arr_getD, List.getD_cons_zero, List.getD_cons_succ]
                exact hK'
            refine Flow.done ?_
            go_wp2_with fail
            exact ⟨⟨k + 1, hlt, by go_num, (hbr.drew).setCell hgw3 _, by rw [HL2.out]; exact own_bl HSet.out (Bl.refl _).drew⟩, by simp [RowKit.intOf] <;> omega⟩
      · obtain rfl : k = m := by omega
        obtain ⟨R, d, e, hR⟩ := own_reads hown
        injection e with e1 _ e3
        subst e1
        subst e3
        have HR := Lib.hid hR
        clear hown hR
        go_wp2_with fail
        refine bodyPost_ret (v := .tuple #[.slice R0 (piecesTo f k).length c0, .int .i64 0]) (by simp [results, Tryd.results49, go_sem]) rfl ⟨R0, (piecesTo f k).length, ⟨c0, by rw [HZ.out]⟩, fun h => absurd HZ.out h, ?_, (w2b.trans hb3).trans hbr⟩
        intro _
        first
          | (simp only [Int.toNat_natCast]; rw [← HF.out]; exact ⟨rfl, HR.out⟩)
          | (rw [← HF.out]; exact ⟨rfl, HR.out⟩)

end Go.Proofs.YtjelhdpcaileiaaDoor
