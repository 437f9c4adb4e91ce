/- bedref2.PiecesOf. -/
import Derived.Test.YtjelhdpcaileiaaDoorU14
import Derived.Test.YtjelhdpcaileiaaDoorU3

namespace Go.Proofs.YtjelhdpcaileiaaDoor
open Go.RowKit

theorem own_less {w : World} {base base' : Nat} {e : TypeId} {size : Nat} {v : Value} {n : Nat} {xs : List Value} (h : w.ownsRow base e size v n xs) (hb : base' ≤ base) : w.ownsRow base' e size v n xs := by
  refine ⟨h.1, ?_⟩
  rcases h.2 with h2 | ⟨g, cap, cur, hv, hg, r⟩
  · exact .inl h2
  · exact .inr ⟨g, cap, cur, hv, Nat.le_trans hb hg, r⟩
set_option maxRecDepth 100000 in
set_option maxHeartbeats 2000000 in
theorem columnsOfO_any (W H : Nat) (A : Option Addr) (ac : Nat) (bs : List Bool) (w : World) (hA : Reads w 1 A (W * H) (bs.map .bool)) (hW : W ≤ 4000) (hH : H ≤ 4000) :
    Calls Tryd.prog 89 #[.agg #[.int .i64 W, .int .i64 H, .slice A (W * H) ac]] w fun e w' => ∃ v, e = .returned v ∧ w'.ownsRow w.heap.size 3 1 v W ((tabL W (colI bs W H)).map (.int .i64)) ∧ Bl w w' := by
  let w2 := (w).alloc (.cells #[.int .i64 W, .int .i64 H, .slice A (W * H) ac] 27)
  have w2b : Bl w w2 := (Bl.refl w).alloc _
  have w21 : Blk w2 (w.heap.size) 27 #[.int .i64 W, .int .i64 H, .slice A (W * H) ac] := by
    have h0 := Blk.new (w) 27 #[.int .i64 W, .int .i64 H, .slice A (W * H) ac]
    exact h0
  have k1 := w21.all3
  have lw2 : w2.heap.size = w.heap.size + 1 := by simp [w2]
  have HA := Lib.hid (hA.bl w2b)
  have ho0 : w2.ownsRow (w.heap.size + 1) 3 1 (.slice none 0 0) 0 ((tabL 0 (colI bs W H)).map (.int .i64)) := World.ownsRow_nil _ _ _ _
  have Ho0 := Lib.hid ho0
  clear hA ho0
  go_enter Tryd.func89, Tryd.ntmps89
  go_wp2_with fail
  go_loopw [3, 7] (fun v u wr => ∃ k : Nat, k ≤ W ∧ u = .int .i64 k ∧ Bl w2 wr ∧ wr.ownsRow (w.heap.size + 1) 3 1 v k ((tabL k (colI bs W H)).map (.int .i64))) (fun _ u _ => W - (intOf u).toNat)
  case atStart => exact ⟨0, Nat.zero_le _, rfl, Bl.refl _, Ho0.out⟩
  case round =>
    clear k1
    obtain ⟨k, hk, rfl, hbr, hown⟩ := hrel
    have k1 := (w21.bl hbr).all3
    by_cases hlt : k < W
    · have hcall := inkOf_any W H k 0 1 H A ac bs wr (HA.out.bl hbr) hW hH (by omega) (by omega)
      rw [ink_col] at hcall
      have htl : (tabL (k + 1) (colI bs W H)).map (Value.int .i64) = (tabL k (colI bs W H)).map (Value.int .i64) ++ [Value.int .i64 ((colI bs W H) k)] := by simp [tabL, List.range_succ]
      have Hcall := Lib.hid hcall; have Htl := Lib.hid htl
      clear hcall htl
      go_wp2_with fail
      refine Hcall.out.mono ?_
      rintro e w1 ⟨rfl, hb1⟩
      have hown1 := own_bl hown hb1
      have hbr1 := hbr.trans hb1
      clear hown
      go_wp2_with (at_builtin; refine wpList_append_one rfl (.tmp 10) (.tmp 17) 62 rfl 3 (.int .i64 0) 8 Tryd.underlying62 info_int rfl (w.heap.size + 1) _ _ _ rfl _ rfl rfl hbr1 (by omega) (by have := hbr1.le; omega) hown1 (by omega) (by unfold maxLen; omega) ?_; intro v' w' hown' hb' _)
      exact ⟨⟨k + 1, hlt, by go_num, hb', by rw [Htl.out]; exact hown'⟩, by simp [intOf]; omega⟩
    · obtain rfl : k = W := by omega
      have HO := Lib.hid hown
      clear hown
      go_wp2_with fail
      go_ret
      exact ⟨_, rfl, own_less HO.out (by omega), w2b.trans hbr⟩

def lastV (f : Nat → Nat) : Nat → Nat
  | 0 => 0
  | k + 1 => f k
theorem ahead_last (f : Nat → Nat) (k : Nat) : ahead f k = decide (0 < lastV f k) := by
  cases k <;> rfl
/-- Nothing behind the end. -/
def upto (f : Nat → Nat) (W : Nat) (k : Nat) : Nat := if k < W then f k else 0
theorem pieces_congr {f g : Nat → Nat} : ∀ {k : Nat}, (∀ j, j < k → f j = g j) → piecesTo f k = piecesTo g k
  | 0, _ => rfl
  | k + 1, h => by
    have ih := pieces_congr (k := k) fun j hj => h j (by omega)
    have ha : ahead f k = ahead g k := by
      cases k with
      | zero => rfl
      | succ k => show decide (0 < f k) = decide (0 < g k); rw [h k (by omega)]
    show (if f k = 0 then piecesTo f k else if ahead f k = true then wider (piecesTo f k) else piecesTo f k ++ [(k, 1)]) = (if g k = 0 then piecesTo g k else if ahead g k = true then wider (piecesTo g k) else piecesTo g k ++ [(k, 1)])
    rw [h k (by omega), ih, ha]
theorem pieces_upto (f : Nat → Nat) (W : Nat) : piecesTo (upto f W) (W + 1) = piecesTo f W := by
  show (if upto f W W = 0 then piecesTo (upto f W) W else _) = _
  rw [if_pos (by unfold upto; rw [if_neg (by omega)])]
  exact pieces_congr fun j hj => by unfold upto; rw [if_pos hj]
theorem cols_at {bs : List Bool} {W H : Nat} {k : Nat} (hk : k < W + 1) : ((tabL W (colI bs W H)).map (Value.int .i64) ++ [.int .i64 0])[k]? = some (.int .i64 ((upto (colN bs W H) W k : Nat) : Int)) := by
  have hl : ((tabL W (colI bs W H)).map (Value.int .i64)).length = W := by rw [List.length_map, tabL_len]
  unfold upto
  by_cases h : k < W
  · rw [List.getElem?_append_left (by omega), List.getElem?_map, tabL_get _ h, if_pos h]
    rfl
  · rw [List.getElem?_append_right (by omega), hl, if_neg h, show k - W = 0 by omega]
    rfl
theorem box_new (H k : Nat) (l : List Piece) : (boxCells H l ++ [Value.int .i64 k, Value.int .i64 0, Value.int .i64 0, Value.int .i64 H]).set (l.length * 4 + 2) (Value.int .i64 1) = boxCells H (l ++ [(k, 1)]) := by
  rw [boxCells_append, List.set_append_right _ _ (by rw [boxCells_len]; omega), boxCells_len, show l.length * 4 + 2 - l.length * 4 = 2 by omega]
  rfl

set_option maxRecDepth 100000 in
set_option maxHeartbeats 4000000 in
theorem piecesOf_any (W H : Nat) (A : Option Addr) (ac : Nat) (bs : List Bool) (w : World) (hA : Reads w 1 A (W * H) (bs.map .bool)) (hW : W ≤ 4000) (hH : H ≤ 4000) :
    Calls Tryd.prog 51 #[.agg #[.int .i64 W, .int .i64 H, .slice A (W * H) ac]] w fun e w' => ∃ v, e = .returned v ∧ w'.ownsRow w.heap.size 88 4 v (piecesTo (colN bs W H) W).length (boxCells H (piecesTo (colN bs W H) W)) ∧ Bl w w' := by
  let w2 := (w).alloc (.cells #[.int .i64 W, .int .i64 H, .slice A (W * H) ac] 27)
  have w2b : Bl w w2 := (Bl.refl w).alloc _
  have w21 : Blk w2 (w.heap.size) 27 #[.int .i64 W, .int .i64 H, .slice A (W * H) ac] := by
    have h0 := Blk.new (w) 27 #[.int .i64 W, .int .i64 H, .slice A (W * H) ac]
    exact h0
  have lw2 : w2.heap.size = w.heap.size + 1 := by simp [w2]
  have Hcs := Lib.hid (columnsOfO_any W H A ac bs w2 (hA.bl w2b) hW hH)
  have k1 := w21.all3
  clear hA
  go_enter Tryd.func51, Tryd.ntmps51
  go_wp2_with fail
  refine Hcs.out.mono ?_
  rintro e w3 ⟨vc, rfl, hown, hb3⟩
  clear_value w2
  have HO3 := Lib.hid hown
  have hl3 := hb3.le
  clear hown k1 Hcs
  go_wp2_with (at_builtin; refine wpList_append_one (w1 := w2) rfl (.tmp 8) (.tmp 9) 62 rfl 3 (.int .i64 0) 8 Tryd.underlying62 info_int rfl w2.heap.size vc W ((tabL W (colI bs W H)).map (.int .i64)) rfl (.int .i64 0) rfl rfl hb3 (Nat.le_refl _) hl3 HO3.out (by omega) (by unfold maxLen; omega) ?_)
  intro v' w4 hown4 hb4 hg4
  obtain ⟨g4, cap4, rfl, hg4B, -⟩ := own_some hown4 (by omega)
  obtain ⟨f, hf⟩ : ∃ f, f = upto (colN bs W H) W := ⟨_, rfl⟩
  have hcell : ∀ k, k < W + 1 → ∀ wx, Bl w4 wx → wx.cell? ⟨g4, k, none⟩ = some (.int .i64 ((f k : Nat) : Int)) := fun k hk wx hx => hx.at (own_cell hown4 (by rw [hf]; exact cols_at hk))
  have hfl : ∀ k, f k ≤ 4000 := fun k => by rw [hf]; unfold upto; split <;> first | (have := colN_le bs W H k; omega) | omega
  have hfin : piecesTo f (W + 1) = piecesTo (colN bs W H) W := by rw [hf, pieces_upto]
  have Hcell := Lib.hid hcell; have HFl := Lib.hid hfl; have HFin := Lib.hid hfin
  have h0 : w4.ownsRow w4.heap.size 88 4 (.slice none 0 0) (piecesTo f 0).length (boxCells H (piecesTo f 0)) := World.ownsRow_nil _ _ _ _
  clear hown4 hf hcell hfl hfin HO3 hg4
  go_wp2_with fail
  go_loopw [12, 3, 4] (fun u v l wr => ∃ k : Nat, k ≤ W + 1 ∧ u = .int .i64 k ∧ l = .int .i64 (lastV f k : Nat) ∧ Bl w4 wr ∧ wr.ownsRow w4.heap.size 88 4 v (piecesTo f k).length (boxCells H (piecesTo f k))) (fun u _ _ _ => W + 1 - (RowKit.intOf u).toNat)
  case atStart => exact ⟨0, Nat.zero_le _, rfl, rfl, Bl.refl _, h0⟩
  case round =>
    obtain ⟨k, hk, rfl, rfl, hbr, hown⟩ := hrel
    obtain ⟨R0, c0, rfl, -, -⟩ := own_new hown
    have k1 := (w21.bl ((hb4).trans hbr)).all3
    have hpl := pieces_len f k
    by_cases hlt : k < W + 1
    · have hc := Hcell.out k hlt wr hbr
      have hnl := HFl.out k
      have hlast := pieces_last f k
      have hin := pieces_in f k
      have hal := ahead_last f k
      have hst : piecesTo f (k + 1) = if f k = 0 then piecesTo f k else if ahead f k = true then wider (piecesTo f k) else piecesTo f k ++ [(k, 1)] := rfl
      have hlv : lastV f (k + 1) = f k := rfl
      have hll : lastV f k ≤ 4000 := by cases k with | zero => exact Nat.zero_le _ | succ j => exact HFl.out j
      obtain ⟨n, hn⟩ : ∃ n, n = f k := ⟨_, rfl⟩
      obtain ⟨lv, hlv0⟩ : ∃ x, x = lastV f k := ⟨_, rfl⟩
      obtain ⟨N, hN⟩ : ∃ N, N = (piecesTo f k).length := ⟨_, rfl⟩
      have hlen0 := Lib.hid hN.symm
      rw [← hN] at hpl hown ⊢
      rw [← hn] at hnl hst hc hlv
      rw [← hlv0] at hal hll ⊢
      have HSt := Lib.hid hst; have HLast := Lib.hid hlast; have HIn := Lib.hid hin; have HLv := Lib.hid hlv; have HAl := Lib.hid hal
      have HOw := Lib.hid hown
      clear hn hst hlast hin hlv hlv0 hal hN hown
      by_cases hz : n = 0
      · have hq : ¬ (0 : Int) < (n : Int) := by omega
        have hq2 : ¬ 0 < n := by omega
        have HN := Lib.hid (show piecesTo f (k + 1) = piecesTo f k by rw [HSt.out, if_pos hz])
        clear hz
        go_wp2_with fail
        exact ⟨⟨k + 1, hlt, by go_num, by rw [HLv.out], hbr, by rw [HN.out, hlen0.out]; exact HOw.out⟩, by simp [RowKit.intOf] <;> omega⟩
      · have hq : (0 : Int) < (n : Int) := by omega
        have hq2 : 0 < n := by omega
        by_cases hz2 : lv = 0
        · have hq3 : ((lv : Int) == 0) = true := by rw [len0]; exact decide_eq_true hz2
          have HN := Lib.hid (show piecesTo f (k + 1) = piecesTo f k ++ [(k, 1)] by rw [HSt.out, if_neg hz, if_neg (by rw [HAl.out, hz2]; decide)])
          clear hz hz2
          go_wp2_with (at_builtin; refine wpList_append_bl (w1 := w4) rfl (.tmp 23) (.tmp 28) 83 rfl 88 (.agg #[.int .i64 0, .int .i64 0, .int .i64 0, .int .i64 0]) 4 32 Tryd.underlying83 info_box rfl (by omega) w4.heap.size _ N (boxCells H (piecesTo f k)) rfl (hbr.alloc _) (Nat.le_refl _) ?hBr (HOw.out.alloc _) (some ⟨wr.heap.size, 0, none⟩) 1 1 [.int .i64 k, .int .i64 0, .int .i64 0, .int .i64 H] rfl ((Blk.new _ _ _).reads 1 4 rfl) ?h1 ?c1 ?c2 ?_)
          case hBr => have := hbr.le; first | omega | (simp; omega)
          case h1 => simp [Value.oneCell']
          case c1 => unfold maxLen; omega
          case c2 => omega
          intro v' w8 hown8 hb8 hg8
          obtain ⟨g8, cap8, rfl, hg8B, -⟩ := own_some hown8 (by omega)
          have hc2 : w8.cell? ⟨g8, N * 4 + 2, none⟩ = some (.int .i64 0) := own_cell hown8 (by rw [List.getElem?_append_right (by rw [boxCells_len, hlen0.out]; omega), boxCells_len, hlen0.out, show N * 4 + 2 - N * 4 = 2 by omega]; rfl)
          have hfz := (own_blk hown8).2
          have hset := ownsRow_set hown8 (N * 4 + 2) (.int .i64 1)
          rw [show N * 4 + 2 = (piecesTo f k).length * 4 + 2 by rw [hlen0.out], box_new, ← HN.out, hlen0.out] at hset
          have hlen2 : (piecesTo f (k + 1)).length = N + 1 := by rw [HN.out, List.length_append, hlen0.out]; rfl
          have HSet := Lib.hid hset; have HL2 := Lib.hid hlen2
          have hNN : (N : Int) < (N : Int) + 1 := by omega
          clear hown8 hset hlen2
          go_wp2_with fail
          exact ⟨⟨k + 1, hlt, by go_num, by rw [HLv.out], hb8.setCell hg8B _, by rw [HL2.out]; exact HSet.out⟩, by simp [RowKit.intOf] <;> omega⟩
        · have hq3 : ((lv : Int) == 0) = false := by rw [len0]; exact decide_eq_false hz2
          have ha : ahead f k = true := by rw [HAl.out]; exact decide_eq_true (by omega)
          have HN := Lib.hid (show piecesTo f (k + 1) = wider (piecesTo f k) by rw [HSt.out, if_neg hz, if_pos ha])
          obtain ⟨l, p, he, hp⟩ := HLast.out.1 ha
          obtain ⟨M, hM⟩ : ∃ M, M = l.length := ⟨_, rfl⟩
          have hNM : N = M + 1 := by rw [← hlen0.out, he, hM, List.length_append]; rfl
          subst hNM
          have hown := HOw.out
          obtain ⟨g, cap, e, hgB, -⟩ := own_some hown (by omega)
          injection e with e1 _ e3
          subst e1
          subst e3
          have hgw : (boxCells H (piecesTo f k))[M * 4 + 2]? = some (.int .i64 p.2) := by rw [boxCells_at (i := M) (p := p) (by rw [he, hM]; simp) 2 (by omega)]; rfl
          have hc2 := own_cell hown hgw
          have hfz := (own_blk hown).2
          have hpi := HIn.out p (by rw [he]; simp)
          have hwd : (boxCells H (piecesTo f k)).set (M * 4 + 2) (.int .i64 ((p.2 : Int) + 1)) = boxCells H (piecesTo f (k + 1)) := by rw [HN.out, he, hM]; exact boxCells_wider H l p
          have hlen2 : (piecesTo f (k + 1)).length = M + 1 := by rw [HN.out, wider_length, hlen0.out]
          have hset := ownsRow_set hown (M * 4 + 2) (.int .i64 ((p.2 : Int) + 1))
          rw [hwd] at hset
          obtain ⟨pw, hpw⟩ : ∃ x, x = p.2 := ⟨_, rfl⟩
          rw [← hpw] at hpi hc2 hset
          have HSet := Lib.hid hset; have HL2 := Lib.hid hlen2
          have hNN : (M : Int) < (M : Int) + 1 := by omega
          clear hown hz hz2 ha he hgw hp hpw hM hset hwd hlen2
          go_wp2_with fail
          exact ⟨⟨k + 1, hlt, by go_num, by rw [HLv.out], hbr.setCell hgB _, by rw [HL2.out]; exact HSet.out⟩, by simp [RowKit.intOf] <;> omega⟩
    · obtain rfl : k = W + 1 := by omega
      have HO := Lib.hid hown
      clear hown
      go_wp2_with fail
      go_ret
      refine ⟨_, rfl, ?_, w2b.trans (hb4.trans hbr)⟩
      have ho := HO.out
      rw [HFin.out] at ho ⊢
      exact own_less ho (by have := hb4.le; omega)

end Go.Proofs.YtjelhdpcaileiaaDoor
