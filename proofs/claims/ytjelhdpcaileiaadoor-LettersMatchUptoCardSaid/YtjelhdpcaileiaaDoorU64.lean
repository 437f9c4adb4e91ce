/- bar.Runs and bedref2.RunsOf. -/
import Derived.Test.YtjelhdpcaileiaaDoorU6
import Derived.Test.YtjelhdpcaileiaaDoorU1
import Derived.Test.YtjelhdpcaileiaaDoorU0
import Derived.Test.YtjelhdpcaileiaaDoorU2

namespace Go.Proofs.YtjelhdpcaileiaaDoor
open Go.RowKit

def inkAt (f : Nat → Bool) : Nat → Bool
  | 0 => false
  | k + 1 => f k
/-- The runs ahead of the last one, and the last one. -/
def runsTo (f : Nat → Bool) : Nat → List Nat × Nat
  | 0 => ([], 0)
  | k + 1 => if f k = inkAt f k then ((runsTo f k).1, (runsTo f k).2 + 1) else ((runsTo f k).1 ++ [(runsTo f k).2], 1)
def runsL (f : Nat → Bool) (k : Nat) : List Nat := (runsTo f k).1 ++ [(runsTo f k).2]
theorem runsTo_le (f : Nat → Bool) : ∀ k, (runsTo f k).1.length ≤ k ∧ (runsTo f k).2 ≤ k
  | 0 => ⟨Nat.le_refl _, Nat.le_refl _⟩
  | k + 1 => by
    have ih := runsTo_le f k
    show ((if f k = inkAt f k then ((runsTo f k).1, (runsTo f k).2 + 1) else ((runsTo f k).1 ++ [(runsTo f k).2], 1)) : List Nat × Nat).1.length ≤ k + 1 ∧ ((if f k = inkAt f k then ((runsTo f k).1, (runsTo f k).2 + 1) else ((runsTo f k).1 ++ [(runsTo f k).2], 1)) : List Nat × Nat).2 ≤ k + 1
    split
    · exact ⟨by show (runsTo f k).1.length ≤ k + 1; omega, by show (runsTo f k).2 + 1 ≤ k + 1; omega⟩
    · refine ⟨?_, by show 1 ≤ k + 1; omega⟩
      show ((runsTo f k).1 ++ [(runsTo f k).2]).length ≤ k + 1
      rw [List.length_append, List.length_singleton]
      omega
theorem runs_same {f : Nat → Bool} {k : Nat} (h : f k = inkAt f k) : runsTo f (k + 1) = ((runsTo f k).1, (runsTo f k).2 + 1) := if_pos h
theorem runs_new {f : Nat → Bool} {k : Nat} (h : f k ≠ inkAt f k) : runsTo f (k + 1) = ((runsTo f k).1 ++ [(runsTo f k).2], 1) := if_neg h
def runCells (r : List Nat × Nat) : List Value := natCells r.1 ++ [.int .i64 r.2]
theorem runCells_list (f : Nat → Bool) (k : Nat) : runCells (runsTo f k) = natCells (runsL f k) := by unfold runCells runsL natCells; rw [List.map_append]; rfl
theorem natCells_len (l : List Nat) : (natCells l).length = l.length := by unfold natCells; rw [List.length_map]
theorem run_last (l : List Nat) (c d : Nat) : (natCells l ++ [Value.int .i64 c]).set l.length (.int .i64 d) = natCells l ++ [Value.int .i64 d] := by
  rw [List.set_append_right _ _ (by rw [natCells_len]; omega), natCells_len, Nat.sub_self]
  rfl
theorem run_last2 (l : List Nat) (c e d : Nat) : (natCells l ++ [Value.int .i64 c] ++ [Value.int .i64 e]).set (l.length + 1) (.int .i64 d) = natCells (l ++ [c]) ++ [Value.int .i64 d] := by
  rw [List.set_append_right _ _ (by rw [List.length_append, natCells_len, List.length_singleton]; omega), List.length_append, natCells_len, List.length_singleton, Nat.sub_self]
  unfold natCells
  rw [List.map_append]
  rfl
theorem run_at2 {l : List Nat} {n : Nat} (h : n = l.length) (c : Nat) (e : Value) : (natCells l ++ [Value.int .i64 c] ++ [e])[n + 1]? = some e := by
  subst h
  have e1 : (natCells l ++ [Value.int .i64 c]).length = l.length + 1 := by rw [List.length_append, natCells_len]; rfl
  rw [List.getElem?_append_right (by omega), e1, Nat.sub_self]
  rfl
theorem own_lit {w : World} {t : TypeId} {u : Value} : (w.alloc (.cells #[u] t)).ownsRow w.heap.size t 1 (.slice (some ⟨w.heap.size, 0, none⟩) 1 1) 1 [u] :=
  ⟨rfl, .inr ⟨w.heap.size, 1, #[u], rfl, Nat.le_refl _, heap_alloc_new w _, Nat.le_refl _, by unfold maxLen; omega, rfl, rfl⟩⟩
def RunsOfRes (l : List Nat) (w : World) (e : Ending) (w' : World) : Prop := ∃ R d, e = .returned (.slice R l.length d) ∧ Reads w' 1 R l.length (natCells l) ∧ Bl w w' ∧ l.length ≤ d
theorem own_cellAt {w : World} {base : Nat} {e : TypeId} {n g cap : Nat} {xs : List Value} (h : w.ownsRow base e 1 (.slice (some ⟨g, 0, none⟩) n cap) n xs) {j : Nat} {u : Value} (hj : xs[j]? = some u) : w.cell? ⟨g, j, none⟩ = some u := by
  obtain ⟨A, c, e2, hr⟩ := own_reads h
  injection e2 with e1 _ _
  subst e1
  have hl := (List.getElem?_eq_some_iff.1 hj).1
  have hlen := hr.1
  obtain ⟨ad, e3, hc⟩ := hr.2 (by omega)
  injection e3 with e3
  subst e3
  have h1 := hc j u hj
  have e4 : (⟨g, 0, none⟩ : Addr).add j = ⟨g, j, none⟩ := by unfold Addr.add; split <;> simp_all
  rw [e4] at h1
  exact h1

set_option maxRecDepth 100000 in
set_option maxHeartbeats 4000000 in
theorem runsOf_any (W H : Nat) (A : Option Addr) (ac : Nat) (bs : List Bool) (y : Nat) (w : World) (hA : Reads w 1 A (W * H) (bs.map .bool)) (hW : W ≤ 4000) (hH : H ≤ 4000) (hy : y < H) :
    Calls Tryd.prog 40 #[.agg #[.int .i64 W, .int .i64 H, .slice A (W * H) ac], .int .i64 y] w (RunsOfRes (runsL (fun x => pix bs W x y) W) w) := by
  let w2 := (w).alloc (.cells #[.int .i64 W, .int .i64 H, .slice A (W * H) ac] 27)
  have w2b : Bl w w2 := (Bl.refl w).alloc _
  have w21 : Blk w2 (w.heap.size) 27 #[.int .i64 W, .int .i64 H, .slice A (W * H) ac] := by
    have h0 := Blk.new (w) 27 #[.int .i64 W, .int .i64 H, .slice A (W * H) ac]
    exact h0
  have HA := Lib.hid (hA.bl w2b)
  obtain ⟨f, hf⟩ : ∃ f, f = fun x => pix bs W x y := ⟨_, rfl⟩
  rw [← hf]
  have HF := Lib.hid hf
  have k1 := w21.all3
  clear hA hf
  go_enter Tryd.func40, Tryd.ntmps40
  go_upto_region 2 with fail
  obtain ⟨w3, hw3⟩ : ∃ x, x = w2.alloc (.cells #[.int .i64 0] 3) := ⟨_, rfl⟩
  have hb3 : Bl w2 w3 := by rw [hw3]; exact (Bl.refl _).alloc _
  have lw2 : w2.heap.size = w.heap.size + 1 := by simp [w2]
  have h0 : w3.ownsRow w2.heap.size 3 1 (.slice (some ⟨w.heap.size + 1, 0, none⟩) 1 1) 1 (runCells (runsTo f 0)) := by rw [hw3, ← lw2]; exact own_lit
  have hw : (w.alloc (.cells #[.int .i64 W, .int .i64 H, .slice A (W * H) ac] 27)).alloc (.cells #[.int .i64 0] 3) = w3 := hw3.symm
  rw [hw]
  clear hw hw3
  have H0 := Lib.hid h0
  clear_value w2
  have k1 := (w21.bl hb3).all3
  clear h0
  go_wp2_with fail
  go_loopw [11, 5, 6] (fun u v x wr => ∃ k : Nat, k ≤ W ∧ u = .int .i64 k ∧ x = .bool (inkAt f k) ∧ Bl w2 wr ∧ Hid (wr.ownsRow w2.heap.size 3 1 v ((runsTo f k).1.length + 1) (runCells (runsTo f k)))) (fun u _ _ _ => W - (RowKit.intOf u).toNat)
  case atStart => exact ⟨0, Nat.zero_le _, rfl, rfl, hb3, H0⟩
  case round =>
    clear k1
    obtain ⟨k, hk, rfl, rfl, hbr, hown⟩ := hrel
    have k1 := (w21.bl hbr).all3
    obtain ⟨g, cap, rfl, hgB, hcap⟩ := own_some hown.out (by omega)
    have HCap := Lib.hid hcap
    clear hcap
    by_cases hlt : k < W
    · have hle := runsTo_le f k
      have hat := at_any W H A ac bs k y wr (HA.out.bl hbr) hW hH
      rw [atI_in bs W H k y hlt hy] at hat
      have hfk : pix bs W k y = f k := by rw [HF.out]
      rw [hfk] at hat
      obtain ⟨l, hl⟩ : ∃ l, l = (runsTo f k).1 := ⟨_, rfl⟩
      obtain ⟨c, hc⟩ : ∃ c, c = (runsTo f k).2 := ⟨_, rfl⟩
      have hrc : runCells (runsTo f k) = natCells l ++ [.int .i64 c] := by rw [hl, hc]; rfl
      have hown2 := hown.out
      rw [hrc, ← hl] at hown2
      have hs1 := runs_same (f := f) (k := k)
      have hs2 := runs_new (f := f) (k := k)
      rw [← hl, ← hc] at hs1 hs2 hle
      rw [← hl]
      have hin : inkAt f (k + 1) = f k := rfl
      obtain ⟨n, hn⟩ : ∃ n, n = l.length := ⟨_, rfl⟩
      rw [← hn] at hown2 hle ⊢
      have Hat := Lib.hid hat; have HOw := Lib.hid hown2; have HIn := Lib.hid hin; have HNl := Lib.hid hn; have HBr := Lib.hid hbr
      obtain ⟨p, hp⟩ : ∃ p, p = f k := ⟨_, rfl⟩
      rw [← hp] at Hat HIn hs1 hs2
      obtain ⟨q, hq⟩ : ∃ q, q = inkAt f k := ⟨_, rfl⟩
      rw [← hq] at hs1 hs2 ⊢
      have hkn : ((n + 1 : Nat) : Int) - 1 = (n : Int) := by omega
      clear hat hown2 hown hrc hl hc hn hfk hp hq hin hbr
      by_cases hpq : p = q
      · have HS := Lib.hid (hs1 hpq)
        have hbne : (p != q) = false := by rw [hpq]; exact bne_self_eq_false q
        clear hs1 hs2
        go_wp2_with fail
        refine Hat.out.mono ?_
        rintro e w4 ⟨rfl, hb4⟩
        have HOw4 := Lib.hid (own_bl HOw.out hb4)
        have hcl : w4.cell? ⟨g, n, none⟩ = some (.int .i64 c) := own_cellAt HOw4.out (by rw [List.getElem?_append_right (by rw [natCells_len, HNl.out]; omega), natCells_len, HNl.out, Nat.sub_self]; rfl)
        have hfz := (own_blk HOw4.out).2
        have HBr4 := Lib.hid (HBr.out.trans hb4)
        have HSet := Lib.hid (show (w4.setCell ⟨g, n, none⟩ (.int .i64 ((c : Int) + 1))).ownsRow w2.heap.size 3 1 (.slice (some ⟨g, 0, none⟩) (n + 1) cap) ((runsTo f (k + 1)).1.length + 1) (runCells (runsTo f (k + 1))) by
          have h := ownsRow_set HOw4.out n (.int .i64 ((c + 1 : Nat) : Int))
          rw [HNl.out, run_last, ← HNl.out] at h
          rw [HS.out]
          show World.ownsRow _ _ _ _ _ (l.length + 1) (natCells l ++ [.int .i64 ((c + 1 : Nat) : Int)])
          rw [← HNl.out]
          exact h)
        clear hb4
        go_wp2_with fail
        exact ⟨⟨k + 1, hlt, by go_num, by rw [HIn.out, hpq], HBr4.out.setCell hgB _, HSet⟩, by simp [RowKit.intOf] <;> omega⟩
      · have HS := Lib.hid (hs2 hpq)
        have hbne : (p != q) = true := by rw [bne_iff_ne]; exact hpq
        have hpe : (p == q) = false := by rw [beq_eq_false_iff_ne]; exact hpq
        have hnq : (!q) = p := by cases p <;> cases q <;> first | rfl | exact absurd rfl hpq
        clear hs1 hs2
        go_wp2_with fail
        refine Hat.out.mono ?_
        rintro e w4 ⟨rfl, hb4⟩
        have HOw4 := Lib.hid (own_bl HOw.out hb4)
        have hb24 := HBr.out.trans hb4
        have t1 : w2.heap.size ≤ w4.heap.size := hb24.le
        have t2 : (n + 1 + 1) * 8 ≤ 140737488355328 := by omega
        have t3 : n + 1 + 1 ≤ maxLen := by unfold maxLen; omega
        clear hb4
        go_wp2_with (at_builtin; refine wpList_append_one (w1 := w2) rfl (.tmp 22) (.tmp 23) 62 rfl 3 (.int .i64 0) 8 Tryd.underlying62 info_int rfl w2.heap.size _ (n + 1) (natCells l ++ [.int .i64 c]) rfl (.int .i64 0) rfl ?a1 ?a2 ?a3 ?a4 ?a5 ?a6 ?a7 ?a8; exact rfl; exact hb24; exact Nat.le_refl _; exact t1; exact HOw4.out; exact t2; exact t3; intro v' w8 hown8 hb8 hg8; obtain ⟨g2, cap2, rfl, hg2, -⟩ := own_some hown8 (by omega); have HOw8 := Lib.hid hown8; have HB8 := Lib.hid hb8; have hcl : w8.cell? ⟨g2, n + 1, none⟩ = some (.int .i64 0) := own_cellAt HOw8.out (run_at2 HNl.out c _); have hfz := (own_blk HOw8.out).2; clear hown8 hb8 hg8)
        have hkn2 : ((n + 1 + 1 : Nat) : Int) - 1 = ((n + 1 : Nat) : Int) := by omega
        have HSet := Lib.hid (show (w8.setCell ⟨g2, n + 1, none⟩ (.int .i64 1)).ownsRow w2.heap.size 3 1 (.slice (some ⟨g2, 0, none⟩) (n + 1 + 1) cap2) ((runsTo f (k + 1)).1.length + 1) (runCells (runsTo f (k + 1))) by
          have h := ownsRow_set HOw8.out (n + 1) (.int .i64 ((1 : Nat) : Int))
          have e := run_last2 l c 0 1
          rw [← HNl.out] at e
          rw [show (Value.int .i64 (0 : Int)) = Value.int .i64 ((0 : Nat) : Int) from rfl, e] at h
          rw [HS.out]
          show World.ownsRow _ _ _ _ _ ((l ++ [c]).length + 1) (natCells (l ++ [c]) ++ [.int .i64 ((1 : Nat) : Int)])
          rw [List.length_append, List.length_singleton, ← HNl.out]
          exact h)
        go_wp2_with fail
        exact ⟨⟨k + 1, hlt, by go_num, by rw [HIn.out], HB8.out.setCell hg2 _, HSet⟩, by simp [RowKit.intOf] <;> omega⟩
    · obtain rfl : k = W := by omega
      obtain ⟨A2, c2, e2, hr2⟩ := own_reads hown.out
      injection e2 with q1 _ q3
      subst q1
      subst q3
      have HRr := Lib.hid hr2
      clear hr2 hown
      have hll : (runsL f k).length = (runsTo f k).1.length + 1 := by unfold runsL; rw [List.length_append, List.length_singleton]
      go_wp2_with fail
      refine bodyPost_ret (v := .slice (some ⟨g, 0, none⟩) ((runsTo f k).1.length + 1) cap) (by simp [results, Tryd.results40, go_sem]) rfl ⟨some ⟨g, 0, none⟩, cap, by rw [hll], ?_, w2b.trans hbr, by rw [hll]; exact HCap.out⟩
      rw [hll, ← runCells_list]
      exact HRr.out

end Go.Proofs.YtjelhdpcaileiaaDoor
