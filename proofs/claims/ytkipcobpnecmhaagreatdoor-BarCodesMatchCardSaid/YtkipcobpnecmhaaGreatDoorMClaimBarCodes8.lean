/- bedref2.VoteOf's closure: the same kind and text. -/
import Derived.Test.YtkipcobpnecmhaaGreatDoorMClaimBarCodes1
import Derived.Test.YtkipcobpnecmhaaGreatDoorMClaimBarCodes7
import Derived.Test.YtkipcobpnecmhaaGreatDoorMClaimBarCodes0
import Derived.Laws.StructEq

namespace Go.Proofs.YtkipcobpnecmhaaGreatDoor
open Go.RowKit Go.Shelf

/-- What is seen of a piece. -/
structure Sn where
  t : List UInt8
  X : Int
  Y : Int
  W : Int
  H : Int
  d : Int
  e : Int
def Sn.cells (s : Sn) : List Value := [.string ⟨s.t.toArray⟩, .int .i64 s.X, .int .i64 s.Y, .int .i64 s.W, .int .i64 s.H, .int .i64 s.d, .int .i64 s.e]
/-! ### texts -/
set_option maxHeartbeats 2000000 in
set_option maxRecDepth 100000 in
theorem writeString_any (B : Nat) (l t : List UInt8) (w : World) (h : Bui B l w) (hlen : l.length + t.length ≤ 140737488355328) (hBw : B ≤ w.heap.size) :
    Calls Tryz.prog 59 #[.pointer (some ⟨B, 0, none⟩), .string ⟨t.toArray⟩] w fun e w' => e = .returned (.tuple #[.int .i64 t.length, .nilIface]) ∧ Bui B (l ++ t) w' ∧ Below B w w' := by
  obtain ⟨i0, hi, hz0, hz1, hz2⟩ := info_parts info_u8
  have hbc : Lib.byteCells (l ++ t) = Lib.byteCells l ++ Lib.byteCells t := Lib.byteCells_append l t
  have hbl : (Lib.byteCells l).length = l.length := Lib.byteCells_length l
  have htl : (Lib.byteCells t).length = t.length := Lib.byteCells_length t
  have Hbc := Lib.hid hbc; have Hbl := Lib.hid hbl; have Htl := Lib.hid htl
  have Hts := Lib.hid (show (ByteArray.mk t.toArray).size = t.length by simp [ByteArray.size])
  clear hbc hbl htl
  obtain ⟨bs, hbs⟩ : ∃ bs, bs = Lib.byteCells l := ⟨_, rfl⟩
  have hck := builderCheck_any B l w h
  rw [← hbs] at hck Hbc Hbl
  have Hck := Lib.hid hck
  clear hbs hck h
  go_enter Tryz.func59, Tryz.ntmps59
  go_wp2_with (go_at_call 104; refine Hck.out.mono ?_)
  rintro e w1 ⟨rfl, h1, hb1⟩
  obtain ⟨hB, v, hbk, hown, hne⟩ := h1
  have c0 : w1.cell? ⟨B, 0, none⟩ = some (.pointer (some ⟨B, 0, none⟩)) := by rw [Lib.cell_of_heap hbk]; rfl
  have c1 : w1.cell? ⟨B, 1, none⟩ = some v := by rw [Lib.cell_of_heap hbk]; rfl
  go_wp2_with (at_builtin; refine Lib.wpList_append_own_stringF _ rfl _ _ 40 9 rfl B 5 i0 Tryz.underlying40 Tryz.underlying9 hi hz0 hz1 hz2 _ _ _ rfl hown ⟨t.toArray⟩ rfl ?c3 ?c4 ?c5 ?_)
  case c3 => unfold maxLen; have := Hbl.out; rw [Hts.out]; omega
  case c4 => have := Hbl.out; rw [Hts.out]; omega
  case c5 => have := hb1.size; omega
  intro v' w2 hown' hgrow _
  have hlt : B < w1.heap.size := by
    rcases Nat.lt_or_ge B w1.heap.size with h' | h'
    · exact h'
    · simp [Array.getElem?_eq_none h'] at hbk
  have hb2 : w2.heap[B]? = some (.cells #[.pointer (some ⟨B, 0, none⟩), v] 88 (0, 0)) := by
    rw [hgrow.block B hlt (fun e => hne e.symm)]
    exact hbk
  have d0 : w2.cell? ⟨B, 0, none⟩ = some (.pointer (some ⟨B, 0, none⟩)) := by rw [Lib.cell_of_heap hb2]; rfl
  have d1 : w2.cell? ⟨B, 1, none⟩ = some v := by rw [Lib.cell_of_heap hb2]; rfl
  have f1 : w2.frozen? ⟨B, 1, none⟩ = false := Lib.frozen_of_heap hb2 1
  obtain ⟨ao, n', cap, rfl⟩ : ∃ ao n' cap, v' = .slice ao n' cap := by
    rcases hown'.2 with ⟨hv, _⟩ | ⟨g, cap, cur, fz, hv, _⟩
    · exact ⟨_, _, _, hv⟩
    · exact ⟨_, _, _, hv⟩
  have hsc : Lib.strCells ⟨t.toArray⟩ = Lib.byteCells t := rfl
  have hput := Lib.BuilderAtF.put (T := 88) (e := 5) hB hb2 (bs' := bs ++ Lib.strCells ⟨t.toArray⟩) (by simpa [Lib.strCells_length, ByteArray.size] using hown') (by decide)
  have hbel := (hb1.grown hgrow (by have := hb1.size; omega) (fun k hk => (hown.lt k hk).1)).setCell (p := ⟨B, 1, none⟩) hB (.slice ao n' cap)
  rw [hsc] at hput
  have Hput := Lib.hid hput; have Hbel := Lib.hid hbel
  clear hput hbel hown' hgrow hown hbk hb2 hlt hb1 hne hsc
  go_wp2
  go_ret2
  exact ⟨rfl, by show Lib.IsBuilderF _ _ B B (Lib.byteCells (l ++ t)) _; rw [Hbc.out]; exact Or.inr Hput.out, Hbel.out⟩

/-! ### doubts -/
def natCells (l : List Nat) : List Value := l.map fun (n : Nat) => .int .i64 (n : Int)

end Go.Proofs.YtkipcobpnecmhaaGreatDoor


/-! bar.Runs and bedref2.RunsOf. -/
namespace Go.Proofs.YtkipcobpnecmhaaGreatDoor
open Go.RowKit

def inkAt (f : Nat → Bool) : Nat → Bool
  | 0 => false
  | k + 1 => f k
/-- The runs ahead of the last one, and the last one. -/
def runsTo (f : Nat → Bool) : Nat → List Nat × Nat
  | 0 => ([], 0)
  | k + 1 => if f k = inkAt f k then ((runsTo f k).1, (runsTo f k).2 + 1) else ((runsTo f k).1 ++ [(runsTo f k).2], 1)
def runsL (f : Nat → Bool) (k : Nat) : List Nat := (runsTo f k).1 ++ [(runsTo f k).2]
theorem runsTo_le (f : Nat → Bool) : ∀ k, (runsTo f k).1.length ≤ k ∧ (runsTo f k).2 ≤ k
  | 0 => ⟨Nat.le_refl _, Nat.le_refl _⟩
  | k + 1 => by
    have ih := runsTo_le f k
    show ((if f k = inkAt f k then ((runsTo f k).1, (runsTo f k).2 + 1) else ((runsTo f k).1 ++ [(runsTo f k).2], 1)) : List Nat × Nat).1.length ≤ k + 1 ∧ ((if f k = inkAt f k then ((runsTo f k).1, (runsTo f k).2 + 1) else ((runsTo f k).1 ++ [(runsTo f k).2], 1)) : List Nat × Nat).2 ≤ k + 1
    split
    · exact ⟨by show (runsTo f k).1.length ≤ k + 1; omega, by show (runsTo f k).2 + 1 ≤ k + 1; omega⟩
    · refine ⟨?_, by show 1 ≤ k + 1; omega⟩
      show ((runsTo f k).1 ++ [(runsTo f k).2]).length ≤ k + 1
      rw [List.length_append, List.length_singleton]
      omega
theorem runs_same {f : Nat → Bool} {k : Nat} (h : f k = inkAt f k) : runsTo f (k + 1) = ((runsTo f k).1, (runsTo f k).2 + 1) := if_pos h
theorem runs_new {f : Nat → Bool} {k : Nat} (h : f k ≠ inkAt f k) : runsTo f (k + 1) = ((runsTo f k).1 ++ [(runsTo f k).2], 1) := if_neg h
def runCells (r : List Nat × Nat) : List Value := natCells r.1 ++ [.int .i64 r.2]
theorem runCells_list (f : Nat → Bool) (k : Nat) : runCells (runsTo f k) = natCells (runsL f k) := by unfold runCells runsL natCells; rw [List.map_append]; rfl
theorem natCells_len (l : List Nat) : (natCells l).length = l.length := by unfold natCells; rw [List.length_map]
theorem run_last (l : List Nat) (c d : Nat) : (natCells l ++ [Value.int .i64 c]).set l.length (.int .i64 d) = natCells l ++ [Value.int .i64 d] := by
  rw [List.set_append_right _ _ (by rw [natCells_len]; omega), natCells_len, Nat.sub_self]
  rfl
theorem run_last2 (l : List Nat) (c e d : Nat) : (natCells l ++ [Value.int .i64 c] ++ [Value.int .i64 e]).set (l.length + 1) (.int .i64 d) = natCells (l ++ [c]) ++ [Value.int .i64 d] := by
  rw [List.set_append_right _ _ (by rw [List.length_append, natCells_len, List.length_singleton]; omega), List.length_append, natCells_len, List.length_singleton, Nat.sub_self]
  unfold natCells
  rw [List.map_append]
  rfl
theorem run_at2 {l : List Nat} {n : Nat} (h : n = l.length) (c : Nat) (e : Value) : (natCells l ++ [Value.int .i64 c] ++ [e])[n + 1]? = some e := by
  subst h
  have e1 : (natCells l ++ [Value.int .i64 c]).length = l.length + 1 := by rw [List.length_append, natCells_len]; rfl
  rw [List.getElem?_append_right (by omega), e1, Nat.sub_self]
  rfl
theorem own_lit {w : World} {t : TypeId} {u : Value} : (w.alloc (.cells #[u] t)).ownsRow w.heap.size t 1 (.slice (some ⟨w.heap.size, 0, none⟩) 1 1) 1 [u] :=
  ⟨rfl, .inr ⟨w.heap.size, 1, #[u], rfl, Nat.le_refl _, heap_alloc_new w _, Nat.le_refl _, by unfold maxLen; omega, rfl, rfl⟩⟩
def RunsOfRes (l : List Nat) (w : World) (e : Ending) (w' : World) : Prop := ∃ R d, e = .returned (.slice R l.length d) ∧ Reads w' 1 R l.length (natCells l) ∧ Bl w w' ∧ l.length ≤ d
theorem own_cellAt {w : World} {base : Nat} {e : TypeId} {n g cap : Nat} {xs : List Value} (h : w.ownsRow base e 1 (.slice (some ⟨g, 0, none⟩) n cap) n xs) {j : Nat} {u : Value} (hj : xs[j]? = some u) : w.cell? ⟨g, j, none⟩ = some u := by
  obtain ⟨A, c, e2, hr⟩ := own_reads h
  injection e2 with e1 _ _
  subst e1
  have hl := (List.getElem?_eq_some_iff.1 hj).1
  have hlen := hr.1
  obtain ⟨ad, e3, hc⟩ := hr.2 (by omega)
  injection e3 with e3
  subst e3
  have h1 := hc j u hj
  have e4 : (⟨g, 0, none⟩ : Addr).add j = ⟨g, j, none⟩ := by unfold Addr.add; split <;> simp_all
  rw [e4] at h1
  exact h1

set_option maxRecDepth 100000 in
set_option maxHeartbeats 4000000 in
theorem runsOf_any (W H : Nat) (A : Option Addr) (ac : Nat) (bs : List Bool) (y : Nat) (w : World) (hA : Reads w 1 A (W * H) (bs.map .bool)) (hW : W ≤ 4000) (hH : H ≤ 4000) (hy : y < H) :
    Calls Tryz.prog 45 #[.agg #[.int .i64 W, .int .i64 H, .slice A (W * H) ac], .int .i64 y] w (RunsOfRes (runsL (fun x => pix bs W x y) W) w) := by
  let w2 := (w).alloc (.cells #[.int .i64 W, .int .i64 H, .slice A (W * H) ac] 28)
  have w2b : Bl w w2 := (Bl.refl w).alloc _
  have w21 : Blk w2 (w.heap.size) 28 #[.int .i64 W, .int .i64 H, .slice A (W * H) ac] := by
    have h0 := Blk.new (w) 28 #[.int .i64 W, .int .i64 H, .slice A (W * H) ac]
    exact h0
  have HA := Lib.hid (hA.bl w2b)
  obtain ⟨f, hf⟩ : ∃ f, f = fun x => pix bs W x y := ⟨_, rfl⟩
  rw [← hf]
  have HF := Lib.hid hf
  have k1 := w21.all3
  clear hA hf
  go_enter Tryz.func45, Tryz.ntmps45
  go_upto_region 2 with fail
  obtain ⟨w3, hw3⟩ : ∃ x, x = w2.alloc (.cells #[.int .i64 0] 3) := ⟨_, rfl⟩
  have hb3 : Bl w2 w3 := by rw [hw3]; exact (Bl.refl _).alloc _
  have lw2 : w2.heap.size = w.heap.size + 1 := by simp [w2]
  have h0 : w3.ownsRow w2.heap.size 3 1 (.slice (some ⟨w.heap.size + 1, 0, none⟩) 1 1) 1 (runCells (runsTo f 0)) := by rw [hw3, ← lw2]; exact own_lit
  have hw : (w.alloc (.cells #[.int .i64 W, .int .i64 H, .slice A (W * H) ac] 28)).alloc (.cells #[.int .i64 0] 3) = w3 := hw3.symm
  rw [hw]
  clear hw hw3
  have H0 := Lib.hid h0
  clear_value w2
  have k1 := (w21.bl hb3).all3
  clear h0
  go_wp2_with fail
  go_loopw [11, 5, 6] (fun u v x wr => ∃ k : Nat, k ≤ W ∧ u = .int .i64 k ∧ x = .bool (inkAt f k) ∧ Bl w2 wr ∧ Hid (wr.ownsRow w2.heap.size 3 1 v ((runsTo f k).1.length + 1) (runCells (runsTo f k)))) (fun u _ _ _ => W - (RowKit.intOf u).toNat)
  case atStart => exact ⟨0, Nat.zero_le _, rfl, rfl, hb3, H0⟩
  case round =>
    clear k1
    obtain ⟨k, hk, rfl, rfl, hbr, hown⟩ := hrel
    have k1 := (w21.bl hbr).all3
    obtain ⟨g, cap, rfl, hgB, hcap⟩ := own_some hown.out (by omega)
    have HCap := Lib.hid hcap
    clear hcap
    by_cases hlt : k < W
    · have hle := runsTo_le f k
      have hat := at_any W H A ac bs k y wr (HA.out.bl hbr) hW hH
      rw [atI_in bs W H k y hlt hy] at hat
      have hfk : pix bs W k y = f k := by rw [HF.out]
      rw [hfk] at hat
      obtain ⟨l, hl⟩ : ∃ l, l = (runsTo f k).1 := ⟨_, rfl⟩
      obtain ⟨c, hc⟩ : ∃ c, c = (runsTo f k).2 := ⟨_, rfl⟩
      have hrc : runCells (runsTo f k) = natCells l ++ [.int .i64 c] := by rw [hl, hc]; rfl
      have hown2 := hown.out
      rw [hrc, ← hl] at hown2
      have hs1 := runs_same (f := f) (k := k)
      have hs2 := runs_new (f := f) (k := k)
      rw [← hl, ← hc] at hs1 hs2 hle
      rw [← hl]
      have hin : inkAt f (k + 1) = f k := rfl
      obtain ⟨n, hn⟩ : ∃ n, n = l.length := ⟨_, rfl⟩
      rw [← hn] at hown2 hle ⊢
      have Hat := Lib.hid hat; have HOw := Lib.hid hown2; have HIn := Lib.hid hin; have HNl := Lib.hid hn; have HBr := Lib.hid hbr
      obtain ⟨p, hp⟩ : ∃ p, p = f k := ⟨_, rfl⟩
      rw [← hp] at Hat HIn hs1 hs2
      obtain ⟨q, hq⟩ : ∃ q, q = inkAt f k := ⟨_, rfl⟩
      rw [← hq] at hs1 hs2 ⊢
      have hkn : ((n + 1 : Nat) : Int) - 1 = (n : Int) := by omega
      clear hat hown2 hown hrc hl hc hn hfk hp hq hin hbr
      by_cases hpq : p = q
      · have HS := Lib.hid (hs1 hpq)
        have hbne : (p != q) = false := by rw [hpq]; exact bne_self_eq_false q
        clear hs1 hs2
        go_wp2_with fail
        refine Hat.out.mono ?_
        rintro e w4 ⟨rfl, hb4⟩
        have HOw4 := Lib.hid (own_bl HOw.out hb4)
        have hcl : w4.cell? ⟨g, n, none⟩ = some (.int .i64 c) := own_cellAt HOw4.out (by rw [List.getElem?_append_right (by rw [natCells_len, HNl.out]; omega), natCells_len, HNl.out, Nat.sub_self]; rfl)
        have hfz := (own_blk HOw4.out).2
        have HBr4 := Lib.hid (HBr.out.trans hb4)
        have HSet := Lib.hid (show (w4.setCell ⟨g, n, none⟩ (.int .i64 ((c : Int) + 1))).ownsRow w2.heap.size 3 1 (.slice (some ⟨g, 0, none⟩) (n + 1) cap) ((runsTo f (k + 1)).1.length + 1) (runCells (runsTo f (k + 1))) by
          have h := ownsRow_set HOw4.out n (.int .i64 ((c + 1 : Nat) : Int))
          rw [HNl.out, run_last, ← HNl.out] at h
          rw [HS.out]
          show World.ownsRow _ _ _ _ _ (l.length + 1) (natCells l ++ [.int .i64 ((c + 1 : Nat) : Int)])
          rw [← HNl.out]
          exact h)
        clear hb4
        go_wp2_with fail
        exact ⟨⟨k + 1, hlt, by go_num, by rw [HIn.out, hpq], HBr4.out.setCell hgB _, HSet⟩, by simp [RowKit.intOf] <;> omega⟩
      · have HS := Lib.hid (hs2 hpq)
        have hbne : (p != q) = true := by rw [bne_iff_ne]; exact hpq
        have hpe : (p == q) = false := by rw [beq_eq_false_iff_ne]; exact hpq
        have hnq : (!q) = p := by cases p <;> cases q <;> first | rfl | exact absurd rfl hpq
        clear hs1 hs2
        go_wp2_with fail
        refine Hat.out.mono ?_
        rintro e w4 ⟨rfl, hb4⟩
        have HOw4 := Lib.hid (own_bl HOw.out hb4)
        have hb24 := HBr.out.trans hb4
        have t1 : w2.heap.size ≤ w4.heap.size := hb24.le
        have t2 : (n + 1 + 1) * 8 ≤ 140737488355328 := by omega
        have t3 : n + 1 + 1 ≤ maxLen := by unfold maxLen; omega
        clear hb4
        go_wp2_with (at_builtin; refine wpList_append_one (w1 := w2) rfl (.tmp 22) (.tmp 23) 68 rfl 3 (.int .i64 0) 8 Tryz.underlying68 info_int rfl w2.heap.size _ (n + 1) (natCells l ++ [.int .i64 c]) rfl (.int .i64 0) rfl ?a1 ?a2 ?a3 ?a4 ?a5 ?a6 ?a7 ?a8; exact rfl; exact hb24; exact Nat.le_refl _; exact t1; exact HOw4.out; exact t2; exact t3; intro v' w8 hown8 hb8 hg8; obtain ⟨g2, cap2, rfl, hg2, -⟩ := own_some hown8 (by omega); have HOw8 := Lib.hid hown8; have HB8 := Lib.hid hb8; have hcl : w8.cell? ⟨g2, n + 1, none⟩ = some (.int .i64 0) := own_cellAt HOw8.out (run_at2 HNl.out c _); have hfz := (own_blk HOw8.out).2; clear hown8 hb8 hg8)
        have hkn2 : ((n + 1 + 1 : Nat) : Int) - 1 = ((n + 1 : Nat) : Int) := by omega
        have HSet := Lib.hid (show (w8.setCell ⟨g2, n + 1, none⟩ (.int .i64 1)).ownsRow w2.heap.size 3 1 (.slice (some ⟨g2, 0, none⟩) (n + 1 + 1) cap2) ((runsTo f (k + 1)).1.length + 1) (runCells (runsTo f (k + 1))) by
          have h := ownsRow_set HOw8.out (n + 1) (.int .i64 ((1 : Nat) : Int))
          have e := run_last2 l c 0 1
          rw [← HNl.out] at e
          rw [show (Value.int .i64 (0 : Int)) = Value.int .i64 ((0 : Nat) : Int) from rfl, e] at h
          rw [HS.out]
          show World.ownsRow _ _ _ _ _ ((l ++ [c]).length + 1) (natCells (l ++ [c]) ++ [.int .i64 ((1 : Nat) : Int)])
          rw [List.length_append, List.length_singleton, ← HNl.out]
          exact h)
        go_wp2_with fail
        exact ⟨⟨k + 1, hlt, by go_num, by rw [HIn.out], HB8.out.setCell hg2 _, HSet⟩, by simp [RowKit.intOf] <;> omega⟩
    · obtain rfl : k = W := by omega
      obtain ⟨A2, c2, e2, hr2⟩ := own_reads hown.out
      injection e2 with q1 _ q3
      subst q1
      subst q3
      have HRr := Lib.hid hr2
      clear hr2 hown
      have hll : (runsL f k).length = (runsTo f k).1.length + 1 := by unfold runsL; rw [List.length_append, List.length_singleton]
      go_wp2_with fail
      refine bodyPost_ret (v := .slice (some ⟨g, 0, none⟩) ((runsTo f k).1.length + 1) cap) (by simp [results, Tryz.results45, go_sem]) rfl ⟨some ⟨g, 0, none⟩, cap, by rw [hll], ?_, w2b.trans hbr, by rw [hll]; exact HCap.out⟩
      rw [hll, ← runCells_list]
      exact HRr.out

end Go.Proofs.YtkipcobpnecmhaaGreatDoor


/-! Codes in memory, their errors; bedref2.VoteError. -/
namespace Go.Proofs.YtkipcobpnecmhaaGreatDoor
open Go.RowKit

/-- A code: kind, text, X, Y, W, count. -/
structure Cd where
  k : Int
  t : List UInt8
  X : Int
  Y : Int
  W : Int
  n : Int
def Cd.cells (c : Cd) : List Value := [.int .i64 c.k, .string ⟨c.t.toArray⟩, .int .i64 c.X, .int .i64 c.Y, .int .i64 c.W, .int .i64 c.n]
def cdCells (cs : List Cd) : List Value := cs.flatMap Cd.cells
theorem cdCells_len (ss : List Cd) : (cdCells ss).length = ss.length * 6 := by
  unfold cdCells
  induction ss with
  | nil => rfl
  | cons l ls ih =>
    rw [List.flatMap_cons, List.length_append, ih, List.length_cons]
    show 6 + ls.length * 6 = (ls.length + 1) * 6
    omega
theorem cdCells_at {ls : List Cd} {i : Nat} {l : Cd} (h : ls[i]? = some l) (j : Nat) (hj : j < 6) : (cdCells ls)[i * 6 + j]? = l.cells[j]? := by
  induction ls generalizing i with
  | nil => simp at h
  | cons x ls ih =>
    unfold cdCells
    rw [List.flatMap_cons]
    rcases i with _ | i
    · simp only [List.getElem?_cons_zero, Option.some.injEq] at h
      subst h
      rw [List.getElem?_append_left (by show 0 * 6 + j < 6; omega)]
      simp
    · rw [List.getElem?_append_right (by show 6 ≤ (i + 1) * 6 + j; omega)]
      have e : (i + 1) * 6 + j - x.cells.length = i * 6 + j := by
        show (i + 1) * 6 + j - 6 = i * 6 + j
        omega
      rw [e]
      exact ih (by simpa using h)
theorem cd_at {w : World} {A : Option Addr} {ss : List Cd} {i : Nat} {c : Cd} (h : Reads w 6 A ss.length (cdCells ss)) (hi : ss[i]? = some c) : ∃ ad, A = some ad ∧ w.cell? (ad.add (i * 6)) = some (.int .i64 c.k) ∧ w.cell? ⟨(ad.add (i * 6)).block, (ad.add (i * 6)).off + 1, none⟩ = some (.string ⟨c.t.toArray⟩) ∧ w.cell? ⟨(ad.add (i * 6)).block, (ad.add (i * 6)).off + 2, none⟩ = some (.int .i64 c.X) ∧ w.cell? ⟨(ad.add (i * 6)).block, (ad.add (i * 6)).off + 3, none⟩ = some (.int .i64 c.Y) ∧ w.cell? ⟨(ad.add (i * 6)).block, (ad.add (i * 6)).off + 4, none⟩ = some (.int .i64 c.W) ∧ w.cell? ⟨(ad.add (i * 6)).block, (ad.add (i * 6)).off + 5, none⟩ = some (.int .i64 c.n) := by
  have hlt : i < ss.length := (List.getElem?_eq_some_iff.1 hi).1
  obtain ⟨ad, e, hc⟩ := h.2 (by omega)
  have key : ∀ j v, j < 6 → c.cells[j]? = some v → w.cell? ((ad.add (i * 6)).add j) = some v := fun j v hj hv => by
    rw [add_of_add]
    exact hc _ _ (by rw [cdCells_at hi j hj]; exact hv)
  have k0 := key 0 _ (by omega) rfl
  have k1 := key 1 _ (by omega) rfl
  have k2 := key 2 _ (by omega) rfl
  have k3 := key 3 _ (by omega) rfl
  have k4 := key 4 _ (by omega) rfl
  have k5 := key 5 _ (by omega) rfl
  rw [Addr.add_zero'] at k0
  rw [Addr.add_succ'] at k1 k2 k3 k4 k5
  exact ⟨ad, e, k0, k1, k2, k3, k4, k5⟩
theorem Blk.all6' {w : World} {g : Nat} {t : TypeId} {a b c d e f : Value} (k : Blk w g t #[a, b, c, d, e, f]) : w.cell? ⟨g, 0, none⟩ = some a ∧ w.cell? ⟨g, 1, none⟩ = some b ∧ w.cell? ⟨g, 2, none⟩ = some c ∧ w.cell? ⟨g, 3, none⟩ = some d ∧ w.cell? ⟨g, 4, none⟩ = some e ∧ w.cell? ⟨g, 5, none⟩ = some f ∧ ∀ i, w.frozen? ⟨g, i, none⟩ = false :=
  ⟨k.cell 0, k.cell 1, k.cell 2, k.cell 3, k.cell 4, k.cell 5, k.frozen⟩
def cdRange (c : Cd) : Bool := inB c.X 0 4000 && (inB c.Y 0 4000 && (inB c.W 0 4000 && inB c.n 1 1000000))
def cdErr (c : Cd) : Int := if c.k ≠ 1 ∧ c.k ≠ 2 then 1 else if cdRange c = false then 3 else 0
def voteErr (cs : List Cd) : Int := if firstNZ (cs.map cdErr) = 0 then whenI (decide (10000 < (cs.length : Int))) 4 else firstNZ (cs.map cdErr)
theorem firstNZ_at {α : Type} (f : α → Int) : ∀ (l : List α) (i : Nat) (x : α), firstNZ ((l.take i).map f) = 0 → l[i]? = some x → f x ≠ 0 → firstNZ (l.map f) = f x
  | [], i, x, _, h, _ => by simp at h
  | y :: l, 0, x, _, h, hx => by
    simp only [List.getElem?_cons_zero, Option.some.injEq] at h
    subst h
    show (if f y = 0 then _ else f y) = f y
    rw [if_neg hx]
  | y :: l, i + 1, x, h0, h, hx => by
    have h1 : (if f y = 0 then firstNZ ((l.take i).map f) else f y) = 0 := h0
    by_cases hy : f y = 0
    · rw [if_pos hy] at h1
      show (if f y = 0 then firstNZ (l.map f) else f y) = f x
      rw [if_pos hy]
      exact firstNZ_at f l i x h1 (by simpa using h) hx
    · rw [if_neg hy] at h1
      exact absurd h1 hy
theorem firstNZ_step {α : Type} (f : α → Int) : ∀ (l : List α) (i : Nat) (x : α), firstNZ ((l.take i).map f) = 0 → l[i]? = some x → f x = 0 → firstNZ ((l.take (i + 1)).map f) = 0
  | [], i, x, _, h, _ => by simp at h
  | y :: l, 0, x, _, h, hx => by
    simp only [List.getElem?_cons_zero, Option.some.injEq] at h
    subst h
    show (if f y = 0 then firstNZ ((l.take 0).map f) else f y) = 0
    rw [if_pos hx]
    rfl
  | y :: l, i + 1, x, h0, h, hx => by
    have h1 : (if f y = 0 then firstNZ ((l.take i).map f) else f y) = 0 := h0
    by_cases hy : f y = 0
    · rw [if_pos hy] at h1
      show (if f y = 0 then firstNZ ((l.take (i + 1)).map f) else f y) = 0
      rw [if_pos hy]
      exact firstNZ_step f l i x h1 (by simpa using h) hx
    · rw [if_neg hy] at h1
      exact absurd h1 hy

end Go.Proofs.YtkipcobpnecmhaaGreatDoor


/-! bar.Vote's closure side; cmp.Or of ints. -/
namespace Go.Proofs.YtkipcobpnecmhaaGreatDoor
open Go.RowKit

set_option maxHeartbeats 400000 in
theorem side_any (n : Int) (w : World) :
    Calls Tryz.prog 73 #[.int .i64 n] w fun e w' => e = .returned (.bool (inB n 0 4000)) ∧ w = w' := by
  unfold inB
  by_cases h1 : 0 ≤ n <;> by_cases h2 : n ≤ 4000
  all_goals
    go_enter Tryz.func73, Tryz.ntmps73
    go_wp2
    go_ret
    exact ⟨by simp [*], rfl⟩
set_option maxRecDepth 100000 in
set_option maxHeartbeats 1000000 in
theorem cmpOr_any (A : Option Addr) (c : Nat) (zs : List Int) (w : World) (hx : Reads w 1 A zs.length (zs.map (.int .i64))) (hl : zs.length ≤ 1000) :
    Calls Tryz.prog 91 #[.slice A zs.length c] w fun e w' => e = .returned (.int .i64 (firstNZ zs)) ∧ w = w' := by
  have HX := Lib.hid hx
  clear hx
  go_enter Tryz.func91, Tryz.ntmps91
  go_wp2_with fail
  go_loopw [8] (fun v wr => ∃ i : Nat, i ≤ zs.length ∧ v = .int .i64 i ∧ wr = w ∧ Hid (firstNZ ((zs.take i).map id) = 0)) (fun v _ => zs.length - (RowKit.intOf v).toNat)
  case atStart => exact ⟨0, Nat.zero_le _, rfl, by trivial, Lib.hid rfl⟩
  case round =>
    obtain ⟨i, hi, rfl, rfl, H0⟩ := hrel
    by_cases hlt : i < zs.length
    · obtain ⟨z, hz⟩ : ∃ z, zs[i]? = some z := ⟨_, List.getElem?_eq_getElem hlt⟩
      obtain ⟨ad, u, rfl, hu, hc⟩ := HX.out.at_ hlt
      rw [List.getElem?_map, hz] at hu
      obtain rfl := Option.some.inj hu
      have hin : (i : Int) < (zs.length : Int) := by omega
      by_cases h0 : z = 0
      · have HG := Lib.hid (firstNZ_step id zs i z H0.out hz h0)
        subst h0
        clear hz
        go_wp2_with fail
        exact ⟨⟨i + 1, hlt, by go_num, by trivial, HG⟩, by simp [RowKit.intOf] <;> omega⟩
      · have HE := Lib.hid (show firstNZ zs = z by have h := firstNZ_at id zs i z H0.out hz h0; rwa [List.map_id] at h)
        have hq : (z != 0) = true := by rw [bne_iff_ne]; exact h0
        clear hz h0
        go_wp2_with fail
        refine bodyPost_ret (v := .int .i64 z) (by simp [results, Tryz.results91, go_sem]) rfl ⟨by rw [HE.out], rfl⟩
    · obtain rfl : i = zs.length := by omega
      have h0 := H0.out
      rw [List.take_length, List.map_id] at h0
      have HE := Lib.hid h0
      clear h0
      go_wp2_with fail
      go_ret
      exact ⟨ret_int HE.out.symm, rfl⟩

end Go.Proofs.YtkipcobpnecmhaaGreatDoor


/-! bedref2.VoteOf's closure: the same kind and text. -/
namespace Go.Proofs.YtkipcobpnecmhaaGreatDoor
open Go.RowKit

def sameKey (c e : Cd) : Bool := decide (e.k = c.k) && decide (e.t = c.t)
set_option maxRecDepth 100000 in
set_option maxHeartbeats 1000000 in
theorem voteOf1_any (g : Nat) (c e : Cd) (w : World) (hb : Blk w g 39 #[.int .i64 c.k, .string ⟨c.t.toArray⟩, .int .i64 c.X, .int .i64 c.Y, .int .i64 c.W, .int .i64 c.n]) :
    Calls Tryz.prog 89 #[.agg #[.int .i64 e.k, .string ⟨e.t.toArray⟩, .int .i64 e.X, .int .i64 e.Y, .int .i64 e.W, .int .i64 e.n], .pointer (some ⟨g, 0, none⟩)] w fun r w' => r = .returned (.bool (sameKey c e)) ∧ Bl w w' := by
  have kb := hb.all6'
  have lb := hb.lt
  by_cases h1 : e.k = c.k
  · have hq : (e.k == c.k) = true := by simp [h1]
    have HV := Lib.hid (show sameKey c e = decide (e.t = c.t) by unfold sameKey; rw [decide_eq_true h1, Bool.true_and])
    clear h1
    go_enter Tryz.func89, Tryz.ntmps89
    go_wp2_with fail
    go_ret
    exact ⟨ret_bool (by rw [HV.out, Bool.eq_iff_iff, beq_iff_eq, decide_eq_true_eq]), by first | exact (Bl.refl _).alloc _ | exact ((Bl.refl _).alloc _).drew⟩
  · have hq : (e.k == c.k) = false := by simp [h1]
    have HV := Lib.hid (show sameKey c e = false by unfold sameKey; rw [decide_eq_false h1, Bool.false_and])
    clear h1
    go_enter Tryz.func89, Tryz.ntmps89
    go_wp2_with fail
    go_ret
    exact ⟨ret_bool HV.out.symm, by first | exact (Bl.refl _).alloc _ | exact ((Bl.refl _).alloc _).drew⟩

end Go.Proofs.YtkipcobpnecmhaaGreatDoor
