/- desk.readLine. -/
import Derived.Test.YthobmednnocklaaGreatDoorMClaimLinesAreRead7
import Derived.Test.YthobmednnocklaaGreatDoorMClaimLinesAreRead2
import Derived.Test.YthobmednnocklaaGreatDoorMClaimLinesAreRead8
import Derived.Test.YthobmednnocklaaGreatDoorMClaimLinesAreRead0
import Derived.Test.YthobmednnocklaaGreatDoorMClaimLinesAreRead1
import Derived.Test.YthobmednnocklaaGreatDoorMClaimLinesAreRead6
import Derived.Test.YthobmednnocklaaGreatDoorMClaimLinesAreRead4
import Derived.Lib.SliceRun

namespace Go.Proofs.YthobmednnocklaaGreatDoor
open Go.RowKit

/-! ### rows of what is seen, as records -/
def snOf : List Value → Sn
 | [.string t, .int _ X, .int _ Y, .int _ W, .int _ H, .int _ d, .int _ e] => ⟨t.data.toList, X, Y, W, H, d, e⟩
 | _ => ⟨[], 0, 0, 0, 0, 0, 0⟩
theorem snOf_cells (s : Sn) : snOf s.cells = s := rfl
def lineV (bs : List Bool) (W H : Nat) (ls : List Ltr) (most ht gs : Int) : List (List Value) := lineTo (seeOf bs W H ls most ht) gs H (piecesTo (colN bs W H) W) (piecesTo (colN bs W H) W).length
/-- What is seen of a line. -/
def lineS (bs : List Bool) (W H : Nat) (ls : List Ltr) (most ht gs : Int) : List Sn := (lineV bs W H ls most ht gs).map snOf
structure SnLine (s : Sn) : Prop where
 ok : SnOk s
 X : 0 ≤ s.X ∧ s.X ≤ 4000
 Y : s.Y = 0
 W : 0 ≤ s.W ∧ s.W ≤ 4000
theorem line_place {bs : List Bool} {W H : Nat} {ls : List Ltr} {most ht gs : Int} {ps : List Piece} (hW : W ≤ 4000) (hin : ∀ p ∈ ps, 1 ≤ p.2 ∧ p.1 + p.2 ≤ W) (hgs : 0 ≤ gs) : ∀ i, i ≤ ps.length → ∀ row ∈ lineTo (seeOf bs W H ls most ht) gs H ps i, ∃ (t : ByteArray) (X V h d e : Int), row = [.string t, .int .i64 X, .int .i64 0, .int .i64 V, .int .i64 h, .int .i64 d, .int .i64 e] ∧ (0 ≤ X ∧ X ≤ 4000) ∧ (0 ≤ V ∧ V ≤ 4000)
 | 0, _, row, h => by cases h
 | i + 1, hi, row, h => by
  have hm : ∀ j, j < ps.length → pieceAt ps j ∈ ps := fun j hj => by
   unfold pieceAt
   rw [List.getD_eq_getElem?_getD, List.getElem?_eq_getElem hj]
   exact List.getElem_mem _
  have e2 : lineTo (seeOf bs W H ls most ht) gs H ps (i + 1) = lineTo (seeOf bs W H ls most ht) gs H ps i ++ (if 0 < i ∧ gs ≤ gapAt ps i then [spaceCells (endAt ps (i - 1)) (gapAt ps i) H] else []) ++ [seeOf bs W H ls most ht (pieceAt ps i)] := rfl
  rw [e2] at h
  rcases List.mem_append.1 h with h | h
  · rcases List.mem_append.1 h with h | h
    · exact line_place hW hin hgs i (by omega) row h
    · split at h
      · rename_i hc
        rw [List.mem_singleton.1 h]
        have h1 := hin _ (hm (i - 1) (by omega))
        have h2 := hin _ (hm i (by omega))
        have h3 : endAt ps (i - 1) = (((pieceAt ps (i - 1)).1 + (pieceAt ps (i - 1)).2 : Nat) : Int) := by unfold endAt; simp
        have h4 : gapAt ps i = ((pieceAt ps i).1 : Int) - endAt ps (i - 1) := rfl
        exact ⟨_, _, _, _, _, _, rfl, by omega, by omega⟩
      · cases h
  · rw [List.mem_singleton.1 h]
    have h2 := hin _ (hm i (by omega))
    obtain ⟨t, d1, d2, hf⟩ := seen_form (bestOf (grid (pieceAt ps i).2 H (cutF bs W (pieceAt ps i).1 0)) (pieceAt ps i).2 H [] ls) (pieceAt ps i).1 (pieceAt ps i).2 H most ht
    exact ⟨_, _, _, _, _, _, hf, by omega, by omega⟩
theorem lineS_cells {bs : List Bool} {W H : Nat} {ls : List Ltr} {most ht gs : Int} (hW : W ≤ 4000) (hH : H ≤ 4000) (hl : ∀ l ∈ ls, (l.W ≤ 64 ∧ l.H ≤ 4000) ∧ l.text.length ≤ 4) (hgs : 0 ≤ gs) :
 (lineV bs W H ls most ht gs).flatten = snCells (lineS bs W H ls most ht gs) ∧ (lineV bs W H ls most ht gs).length = (lineS bs W H ls most ht gs).length ∧ (∀ s ∈ lineS bs W H ls most ht gs, SnLine s) ∧ (lineS bs W H ls most ht gs).length ≤ 8000 := by
 have hin := pieces_in (colN bs W H) W
 have hpl := pieces_len (colN bs W H) W
 obtain ⟨ss, e, hs, hn⟩ := line_sn (bs := bs) (W := W) (H := H) (most := most) (ht := ht) (gs := gs) (ps := piecesTo (colN bs W H) W) hH hl (fun p hp => by have := hin p hp; omega) _ (Nat.le_refl _)
 have hS : lineS bs W H ls most ht gs = ss := by
  unfold lineS lineV
  rw [e, List.map_map]
  exact List.map_id'' (fun s => snOf_cells s) ss
 have hV : lineV bs W H ls most ht gs = ss.map Sn.cells := e
 rw [hS]
 refine ⟨by rw [hV]; exact map_flat ss, by rw [hV, List.length_map], fun s hm => ?_, by omega⟩
 obtain ⟨t, X, V, h, d, e', he, h1, h2⟩ := line_place (bs := bs) (H := H) (ls := ls) (most := most) (ht := ht) (gs := gs) hW hin hgs _ (Nat.le_refl _) s.cells (by rw [e]; exact List.mem_map_of_mem hm)
 unfold Sn.cells at he
 simp only [List.cons.injEq, Value.int.injEq, true_and, and_true] at he
 obtain ⟨-, hX, hY, hV', -⟩ := he
 exact ⟨hs s hm, by rw [hX]; exact h1, hY, by rw [hV']; exact h2⟩
/-! ### the cost of a line -/
def costOne (ht : Int) (s : Sn) : Int := if s.d < 0 then ht * s.W else s.d
def costTo (ht : Int) (ss : List Sn) : Nat → Int
 | 0 => 0
 | i + 1 => costTo ht ss i + (match ss[i]? with | none => 0 | some s => costOne ht s)
theorem costTo_succ {ht : Int} {ss : List Sn} {i : Nat} {s : Sn} (h : ss[i]? = some s) : costTo ht ss (i + 1) = costTo ht ss i + costOne ht s := by
 show _ + (match ss[i]? with | none => (0 : Int) | some s => costOne ht s) = _
 rw [h]
theorem costOne_bd {ht : Int} (h : 0 ≤ ht ∧ ht ≤ 64) {s : Sn} (hs : SnLine s) : 0 ≤ costOne ht s ∧ costOne ht s ≤ 32000000 := by
 unfold costOne
 split
 · have h1 := hs.W
   have h2 := Int.mul_nonneg h.1 h1.1
   have h3 : ht * s.W ≤ 64 * 4000 := Int.mul_le_mul h.2 h1.2 h1.1 (by decide)
   omega
 · have := hs.ok.2.1
   omega
theorem costTo_bd {ht : Int} (h : 0 ≤ ht ∧ ht ≤ 64) {ss : List Sn} (hs : ∀ s ∈ ss, SnLine s) : ∀ i, 0 ≤ costTo ht ss i ∧ costTo ht ss i ≤ 32000000 * i
 | 0 => by simp [costTo]
 | i + 1 => by
  have ih := costTo_bd h hs i
  show 0 ≤ costTo ht ss i + (match ss[i]? with | none => (0 : Int) | some s => costOne ht s) ∧ _
  cases hg : ss[i]? with
  | none => simp only; constructor <;> (show _ ≤ _; first | omega | (show costTo ht ss i + (match ss[i]? with | none => (0 : Int) | some s => costOne ht s) ≤ _; rw [hg]; simp only; omega))
  | some s =>
   have := costOne_bd h (hs s (List.mem_of_getElem? hg))
   refine ⟨by show (0:Int) ≤ costTo ht ss i + costOne ht s; omega, ?_⟩
   show costTo ht ss i + (match ss[i]? with | none => (0 : Int) | some s => costOne ht s) ≤ _
   rw [hg]
   show costTo ht ss i + costOne ht s ≤ _
   omega
def costS (ht : Int) (ss : List Sn) : Int := costTo ht ss ss.length
/-! ### the best of several -/
def minTo (c : Nat → Int) : Nat → Nat
 | 0 => 0
 | k + 1 => if k = 0 then 0 else if c k < c (minTo c k) then k else minTo c k
theorem minTo_lt (c : Nat → Int) : ∀ k, 0 < k → minTo c k < k
 | 0, h => absurd h (Nat.lt_irrefl _)
 | k + 1, _ => by
  unfold minTo
  by_cases h : k = 0
  · rw [if_pos h]; omega
  · rw [if_neg h]
    have := minTo_lt c k (by omega)
    split <;> omega
theorem minTo_new {c : Nat → Int} {k : Nat} (h : 0 < k) (h2 : c k < c (minTo c k)) : minTo c (k + 1) = k := by
 show (if k = 0 then 0 else if c k < c (minTo c k) then k else minTo c k) = k
 rw [if_neg (by omega), if_pos h2]
theorem minTo_old {c : Nat → Int} {k : Nat} (h : 0 < k) (h2 : ¬ c k < c (minTo c k)) : minTo c (k + 1) = minTo c k := by
 show (if k = 0 then 0 else if c k < c (minTo c k) then k else minTo c k) = _
 rw [if_neg (by omega), if_neg h2]
/-! ### moved -/
def Sn.moved (s : Sn) (dx dy : Int) : Sn := ⟨s.t, s.X + dx, s.Y + dy, s.W, s.H, s.d, s.e⟩
/-- The first i are moved. -/
def movedTo (ss : List Sn) (dx dy : Int) (i : Nat) : List Sn := (ss.take i).map (fun s => s.moved dx dy) ++ ss.drop i
theorem movedTo_zero (ss : List Sn) (dx dy : Int) : movedTo ss dx dy 0 = ss := by simp [movedTo]
theorem movedTo_all (ss : List Sn) (dx dy : Int) : movedTo ss dx dy ss.length = ss.map (fun s => s.moved dx dy) := by simp [movedTo]
theorem movedTo_len (ss : List Sn) (dx dy : Int) (i : Nat) : (movedTo ss dx dy i).length = ss.length := by
 unfold movedTo
 rw [List.length_append, List.length_map, List.length_take, List.length_drop]
 omega
theorem movedTo_at {ss : List Sn} {dx dy : Int} {i : Nat} {s : Sn} (h : ss[i]? = some s) : (movedTo ss dx dy i)[i]? = some s := by
 have hl := (List.getElem?_eq_some_iff.1 h).1
 unfold movedTo
 rw [List.getElem?_append_right (by rw [List.length_map, List.length_take]; omega), List.length_map, List.length_take, Nat.min_eq_left (by omega), Nat.sub_self, List.getElem?_drop, Nat.add_zero]
 exact h
theorem movedTo_succ {ss : List Sn} {dx dy : Int} {i : Nat} {s : Sn} (h : ss[i]? = some s) : movedTo ss dx dy (i + 1) = (movedTo ss dx dy i).set i (s.moved dx dy) := by
 have hl := (List.getElem?_eq_some_iff.1 h).1
 unfold movedTo
 rw [List.set_append_right _ _ (by rw [List.length_map, List.length_take]; omega), List.length_map, List.length_take, Nat.min_eq_left (by omega), Nat.sub_self, List.take_add_one, h, List.map_append]
 have hd : ss.drop i = s :: ss.drop (i + 1) := by
  rw [List.drop_eq_getElem_cons hl]
  congr 1
  exact Option.some.inj ((List.getElem?_eq_getElem hl).symm.trans h)
 rw [hd, List.set_cons_zero, List.append_assoc]
 rfl
/-! ### the page that a line is read from -/
/-- Line k: its top is k rows above the box. -/
def lineP (bs : List Bool) (W H X Y bw ht k : Nat) : List Bool := grid bw ht (fun u v => atI bs W H ((X : Int) + (u : Int)) ((Y : Int) - (k : Int) + (v : Int)))
theorem lineP_paste {bs : List Bool} {W H X Y bw ht k : Nat} (hW : X < W + 4001) : grid bw ht (pasteF (List.replicate (bw * ht) false) bs bw ht W H (-(X : Int)) ((k : Int) - (Y : Int))) = lineP bs W H X Y bw ht k := by
 refine grid_congr _ _ _ _ fun u v hu hv => ?_
 have hp : pix (List.replicate (bw * ht) false) bw u v = false := by
  unfold pix
  rw [List.getD_eq_getElem?_getD, List.getElem?_replicate]
  split <;> rfl
 have e1 : (u : Int) - -(X : Int) = (X : Int) + (u : Int) := by omega
 have e2 : (v : Int) - ((k : Int) - (Y : Int)) = (Y : Int) - (k : Int) + (v : Int) := by omega
 cases ha : isApart bw ht W H (-(X : Int)) ((k : Int) - (Y : Int)) with
 | true =>
  rw [pasteF_apart hp ha]
  unfold isApart at ha
  simp only [Bool.or_eq_true, decide_eq_true_eq] at ha
  unfold atI
  rw [decide_eq_false (by omega), Bool.false_and]
 | false => rw [pasteF_at hp ha, e1, e2]
end Go.Proofs.YthobmednnocklaaGreatDoor


/-! desk.cost; rows of what is seen that are moved in place. -/
namespace Go.Proofs.YthobmednnocklaaGreatDoor
open Go.RowKit Go.Shelf

theorem snCells_set {ss : List Sn} {k : Nat} {s s' : Sn} (h : ss[k]? = some s) (j : Nat) (v : Value) (hj : j < 7) (hc : s'.cells = s.cells.set j v) : snCells (ss.set k s') = (snCells ss).set (k * 7 + j) v := by
 induction ss generalizing k with
 | nil => simp at h
 | cons x ss ih =>
  have hx : ∀ y : Sn, y.cells.length = 7 := fun _ => rfl
  rcases k with _ | k
  · simp only [List.getElem?_cons_zero, Option.some.injEq] at h
    subst h
    show s'.cells ++ snCells ss = (x.cells ++ snCells ss).set (0 * 7 + j) v
    rw [List.set_append_left _ _ (by rw [hx]; omega), hc, Nat.zero_mul, Nat.zero_add]
  · show x.cells ++ snCells (ss.set k s') = (x.cells ++ snCells ss).set ((k + 1) * 7 + j) v
    rw [List.set_append_right _ _ (by rw [hx]; omega), hx, ih (by simpa using h)]
    congr 2
    omega
set_option maxRecDepth 100000 in
set_option maxHeartbeats 2000000 in
theorem cost_any (A : Option Addr) (c : Nat) (ss : List Sn) (ht : Int) (w : World) (hr : Reads w 7 A ss.length (snCells ss)) (hs : ∀ s ∈ ss, SnLine s) (hh : 0 ≤ ht ∧ ht ≤ 64) (hl : ss.length ≤ 8000) :
 Calls Tryz.prog 87 #[.slice A ss.length c, .int .i64 ht] w fun e w' => e = .returned (.int .i64 (costS ht ss)) ∧ Bl w w' := by
 have hbd := fun i => costTo_bd (ht := ht) hh hs i
 have HR := Lib.hid hr; have HS := Lib.hid hs; have HBd := Lib.hid hbd
 clear hr hs hbd
 unfold costS
 go_enter Tryz.func87, Tryz.ntmps87
 go_wp2_with fail
 go_loopw [5, 10] (fun n u wr => ∃ i : Nat, i ≤ ss.length ∧ u = .int .i64 i ∧ n = .int .i64 (costTo ht ss i) ∧ Bl w wr) (fun _ u _ => ss.length - (RowKit.intOf u).toNat)
 case atStart => exact ⟨0, Nat.zero_le _, rfl, rfl, Bl.refl _⟩
 case round =>
  obtain ⟨i, hi, rfl, rfl, hb⟩ := hrel
  by_cases hlt : i < ss.length
  · have hg : ss[i]? = some ss[i] := List.getElem?_eq_getElem hlt
    obtain ⟨s, hs0⟩ : ∃ z, z = ss[i] := ⟨_, rfl⟩
    rw [← hs0] at hg
    obtain ⟨ad, rfl, j0, j1, j2, j3, j4, j5, j6⟩ := sn_at (HR.out.bl hb) hg
    have hsl := HS.out s (List.mem_of_getElem? hg)
    have hbi := HBd.out i
    have hst := costTo_succ (ht := ht) hg
    obtain ⟨C, hC⟩ : ∃ x, x = costTo ht ss i := ⟨_, rfl⟩
    obtain ⟨C', hC'⟩ : ∃ x, x = costTo ht ss (i + 1) := ⟨_, rfl⟩
    rw [← hC] at hbi hst ⊢
    rw [← hC'] at hst
    have hw := hsl.W
    have hd := hsl.ok.2.1
    have hmul : 0 ≤ ht * s.W ∧ ht * s.W ≤ 256000 := ⟨Int.mul_nonneg hh.1 hw.1, Int.mul_le_mul hh.2 hw.2 hw.1 (by decide)⟩
    have HC' := Lib.hid hC'
    have Hb := Lib.hid hb
    have hiI : (i : Int) < (ss.length : Int) := by omega
    have hcb : 0 ≤ C ∧ C ≤ 256000000000 := by omega
    by_cases hneg : s.d < 0
    · have HX := Lib.hid (show C + ht * s.W = C' by rw [hst]; unfold costOne; rw [if_pos hneg])
      clear hg hs0 hC hC' hst hsl hbi hb
      go_upto_region 5 with fail
      obtain ⟨w2, hw2⟩ : ∃ x, x = wr.alloc (.cells #[.string ⟨s.t.toArray⟩, .int .i64 s.X, .int .i64 s.Y, .int .i64 s.W, .int .i64 s.H, .int .i64 s.d, .int .i64 s.e] 45) := ⟨_, rfl⟩
      have b2 : Blk w2 wr.heap.size 45 #[.string ⟨s.t.toArray⟩, .int .i64 s.X, .int .i64 s.Y, .int .i64 s.W, .int .i64 s.H, .int .i64 s.d, .int .i64 s.e] := by rw [hw2]; exact Blk.new _ _ _
      have Hb2 := Lib.hid (show Bl w w2 by rw [hw2]; exact Hb.out.alloc _)
      rw [← hw2]
      have k2 := b2.all7
      clear hw2 b2 j0 j1 j2 j3 j4 j5 j6
      go_wp2_with fail
      exact ⟨⟨i + 1, hlt, by go_num, by rw [HX.out, HC'.out], Hb2.out⟩, by simp [RowKit.intOf]; omega⟩
    · have HX := Lib.hid (show C + s.d = C' by rw [hst]; unfold costOne; rw [if_neg hneg])
      clear hg hs0 hC hC' hst hsl hbi hb
      go_upto_region 5 with fail
      obtain ⟨w2, hw2⟩ : ∃ x, x = wr.alloc (.cells #[.string ⟨s.t.toArray⟩, .int .i64 s.X, .int .i64 s.Y, .int .i64 s.W, .int .i64 s.H, .int .i64 s.d, .int .i64 s.e] 45) := ⟨_, rfl⟩
      have b2 : Blk w2 wr.heap.size 45 #[.string ⟨s.t.toArray⟩, .int .i64 s.X, .int .i64 s.Y, .int .i64 s.W, .int .i64 s.H, .int .i64 s.d, .int .i64 s.e] := by rw [hw2]; exact Blk.new _ _ _
      have Hb2 := Lib.hid (show Bl w w2 by rw [hw2]; exact Hb.out.alloc _)
      rw [← hw2]
      have k2 := b2.all7
      clear hw2 b2 j0 j1 j2 j3 j4 j5 j6
      go_wp2_with fail
      exact ⟨⟨i + 1, hlt, by go_num, by rw [HX.out, HC'.out], Hb2.out⟩, by simp [RowKit.intOf]; omega⟩
  · obtain rfl : i = ss.length := by omega
    go_wp2_with fail
    go_ret
    exact ⟨rfl, hb⟩
end Go.Proofs.YthobmednnocklaaGreatDoor


/-! desk.readLine. -/
namespace Go.Proofs.YthobmednnocklaaGreatDoor
open Go.RowKit Go.Shelf

/-- What is seen of line k. -/
def seenK (bs : List Bool) (W H X Y BW ht : Nat) (ls : List Ltr) (most gs : Int) (k : Nat) : List Sn := lineS (lineP bs W H X Y BW ht k) BW ht ls most ht gs
def bestK (bs : List Bool) (W H X Y BW ht : Nat) (ls : List Ltr) (most gs : Int) (n : Nat) : Nat := minTo (fun k => costS ht (seenK bs W H X Y BW ht ls most gs k)) n
/-- What a line says, and which. -/
def readS (bs : List Bool) (W H X Y BW BH ht : Nat) (ls : List Ltr) (most gs : Int) : List Sn := if ht < BH then [⟨[63], X, Y, BW, BH, -1, -1⟩] else (seenK bs W H X Y BW ht ls most gs (bestK bs W H X Y BW ht ls most gs (ht - BH + 1))).map (fun s => s.moved X ((Y : Int) - (bestK bs W H X Y BW ht ls most gs (ht - BH + 1) : Int)))
def readK (bs : List Bool) (W H X Y BW BH ht : Nat) (ls : List Ltr) (most gs : Int) : Int := if ht < BH then -1 else (bestK bs W H X Y BW ht ls most gs (ht - BH + 1) : Int)
def LineRes (B : Nat) (ss : List Sn) (k : Int) (e : Ending) (w' : World) : Prop := ∃ R d, e = .returned (.tuple #[.slice R ss.length d, .int .i64 k]) ∧ Reads w' 7 R ss.length (snCells ss) ∧ ∀ ad, R = some ad → B ≤ ad.block
theorem textB_len {t : List UInt8} (h : textB t = true) : t.length ≤ 4 := by
 unfold textB at h
 simp only [Bool.and_eq_true, decide_eq_true_eq] at h
 omega
set_option maxRecDepth 100000 in
set_option maxHeartbeats 2000000 in
theorem readLine_high (nm : List UInt8) (ht gap sp : Int) (L : Option Addr) (n lc : Nat) (W H : Int) (C : Option Addr) (m cc : Nat) (X Y BW BH : Int) (most : Int) (w : World) (hh : ht < BH) :
 Calls Tryz.prog 35 #[.agg #[.int .i64 W, .int .i64 H, .slice C m cc], .agg #[.int .i64 X, .int .i64 Y, .int .i64 BW, .int .i64 BH], .agg #[.string ⟨nm.toArray⟩, .int .i64 ht, .int .i64 gap, .int .i64 sp, .slice L n lc], .int .i64 most] w fun e w' => LineRes w.heap.size [⟨[63], X, Y, BW, BH, -1, -1⟩] (-1) e w' ∧ Bl w w' := by
 let w1 := (((w).alloc (.cells #[.int .i64 W, .int .i64 H, .slice C m cc] 24)).alloc (.cells #[.int .i64 X, .int .i64 Y, .int .i64 BW, .int .i64 BH] 26)).alloc (.cells #[.string ⟨nm.toArray⟩, .int .i64 ht, .int .i64 gap, .int .i64 sp, .slice L n lc] 29)
 have w1b : Bl w w1 := (((Bl.refl w).alloc _).alloc _).alloc _
 have w11 : Blk w1 (w.heap.size) 24 #[.int .i64 W, .int .i64 H, .slice C m cc] := by
  have h0 := Blk.new (w) 24 #[.int .i64 W, .int .i64 H, .slice C m cc]
  exact ((h0.alloc _).alloc _)
 have w12 : Blk w1 (w.heap.size + 1) 26 #[.int .i64 X, .int .i64 Y, .int .i64 BW, .int .i64 BH] := by
  have h0 := Blk.new ((w).alloc (.cells #[.int .i64 W, .int .i64 H, .slice C m cc] 24)) 26 #[.int .i64 X, .int .i64 Y, .int .i64 BW, .int .i64 BH]
  simp only [World.size_alloc] at h0
  exact (h0.alloc _)
 have w13 : Blk w1 (w.heap.size + 1 + 1) 29 #[.string ⟨nm.toArray⟩, .int .i64 ht, .int .i64 gap, .int .i64 sp, .slice L n lc] := by
  have h0 := Blk.new (((w).alloc (.cells #[.int .i64 W, .int .i64 H, .slice C m cc] 24)).alloc (.cells #[.int .i64 X, .int .i64 Y, .int .i64 BW, .int .i64 BH] 26)) 29 #[.string ⟨nm.toArray⟩, .int .i64 ht, .int .i64 gap, .int .i64 sp, .slice L n lc]
  simp only [World.size_alloc] at h0
  exact h0
 have sz1 : w1.heap.size = w.heap.size + 3 := by simp [w1]
 have k2 := w12.all4
 have k3 := w13.all5
 have HW1b := Lib.hid w1b
 clear w1b
 go_enter Tryz.func35, Tryz.ntmps35
 go_upto_region 1 with fail
 rw [show ((w.alloc (.cells #[.int .i64 W, .int .i64 H, .slice C m cc] 24)).alloc (.cells #[.int .i64 X, .int .i64 Y, .int .i64 BW, .int .i64 BH] 26)).alloc (.cells #[.string ⟨nm.toArray⟩, .int .i64 ht, .int .i64 gap, .int .i64 sp, .slice L n lc] 29) = w1 from rfl]
 clear_value w1
 go_wp2_with fail
 obtain ⟨w2, hw2⟩ : ∃ x, x = w1.alloc (.cells #[.string ⟨#[63]⟩, .int .i64 X, .int .i64 Y, .int .i64 BW, .int .i64 BH, .int .i64 (-1), .int .i64 (-1)] 45) := ⟨_, rfl⟩
 have b2 : Blk w2 w1.heap.size 45 #[.string ⟨#[63]⟩, .int .i64 X, .int .i64 Y, .int .i64 BW, .int .i64 BH, .int .i64 (-1), .int .i64 (-1)] := by rw [hw2]; exact Blk.new _ _ _
 have hb2 : Bl w1 w2 := by rw [hw2]; exact (Bl.refl _).alloc _
 rw [← hw2]
 refine bodyPost_ret (v := .tuple #[.slice (some ⟨w1.heap.size, 0, none⟩) 1 1, .int .i64 (-1)]) (by simp [results, Tryz.results35, go_sem]) rfl ⟨⟨_, _, rfl, b2.reads 1 7 rfl, fun ad h => by cases h; show w.heap.size ≤ w1.heap.size; omega⟩, HW1b.out.trans hb2⟩
set_option maxRecDepth 100000 in
set_option maxHeartbeats 16000000 in
theorem readLine_ok (nm : List UInt8) (ht gap sp : Nat) (L : Option Addr) (lc : Nat) (ls : List Ltr) (W H : Nat) (C : Option Addr) (cc : Nat) (bs : List Bool) (X Y BW BH : Nat) (most : Int) (w : World) (hL : LtrsAt w L ls) (hnm : nm.length ≤ 9223372036854775807) (hn : ls.length ≤ 9223372036854775807) (hfe : fontErr (nameB nm) ht gap sp ls = 0)
 (hC : Reads w 1 C (W * H) (bs.map .bool)) (hs : sizeErr (W : Int) (H : Int) = 0) (hbx : X + BW ≤ W ∧ Y + BH ≤ H ∧ 1 ≤ BW ∧ 1 ≤ BH) (hm : 0 ≤ most ∧ most ≤ 1000) (hh : BH ≤ ht) :
 Calls Tryz.prog 35 #[.agg #[.int .i64 W, .int .i64 H, .slice C (W * H) cc], .agg #[.int .i64 X, .int .i64 Y, .int .i64 BW, .int .i64 BH], .agg #[.string ⟨nm.toArray⟩, .int .i64 ht, .int .i64 gap, .int .i64 sp, .slice L ls.length lc], .int .i64 most] w fun e w' => LineRes w.heap.size (readS bs W H X Y BW BH ht ls most (((gap : Int) + (sp : Int) + 1) / 2)) (readK bs W H X Y BW BH ht ls most (((gap : Int) + (sp : Int) + 1) / 2)) e w' ∧ Bl w w' := by
 have hz := sizeErr_zero hs
 obtain ⟨⟨-, -, -, -, -, hht1, hht2⟩, hltr⟩ := fontErr_zero hfe
 have hht : 1 ≤ ht ∧ ht ≤ 64 := by omega
 have hXY : X ≤ 4000 ∧ Y ≤ 4000 ∧ BH ≤ 4000 := by omega
 have hBW : BW ≤ 4000 := by omega
 obtain ⟨gs, hgs⟩ : ∃ g : Int, g = (((gap : Int) + (sp : Int) + 1) / 2) := ⟨_, rfl⟩
 have hgs0 : 0 ≤ gs := by omega
 obtain ⟨N, hN⟩ : ∃ n, n = ht - BH + 1 := ⟨_, rfl⟩
 obtain ⟨SK, hSK⟩ : ∃ f, f = seenK bs W H X Y BW ht ls most gs := ⟨_, rfl⟩
 obtain ⟨bk, hbk⟩ : ∃ k, k = minTo (fun k => costS ht (SK k)) N := ⟨_, rfl⟩
 have hbkl : bk < N := by rw [hbk]; exact minTo_lt _ _ (by omega)
 have hrs : readS bs W H X Y BW BH ht ls most gs = (SK bk).map (fun s => s.moved X ((Y : Int) - (bk : Int))) := by
  unfold readS bestK
  rw [if_neg (by omega), ← hN, ← hSK, ← hbk]
 have hrk : readK bs W H X Y BW BH ht ls most gs = (bk : Int) := by
  unfold readK bestK
  rw [if_neg (by omega), ← hN, ← hSK, ← hbk]
 have hll : ∀ k, (lineV (lineP bs W H X Y BW ht k) BW ht ls most ht gs).flatten = snCells (SK k) ∧ (lineV (lineP bs W H X Y BW ht k) BW ht ls most ht gs).length = (SK k).length ∧ (∀ s ∈ SK k, SnLine s) ∧ (SK k).length ≤ 8000 := fun k => by
  rw [hSK]
  exact lineS_cells hBW (by omega) (fun l hl => by
   have h := hltr l hl
   have := (pageErr_zero h.2.1).1
   exact ⟨⟨h.2.2.2, by have := sizeErr_zero this; omega⟩, textB_len h.1⟩) hgs0
 rw [← hgs, hrs, hrk]
 have hblk : BW * ht ≤ 1048576 := Nat.le_trans (Nat.mul_le_mul hBW hht.2) (by decide)
 have hsz : sizeErr (BW : Int) (ht : Int) = 0 := by
  have := Int.natCast_mul BW ht
  unfold sizeErr
  rw [if_pos (by omega), if_neg (by omega)]
 have hrd := fun (A : Option Addr) (ac k : Nat) (wx : World) (hA : Reads wx 1 A (BW * ht) ((lineP bs W H X Y BW ht k).map .bool)) (hLx : LtrsAt wx L ls) => show Calls Tryz.prog 48 #[.agg #[.string ⟨nm.toArray⟩, .int .i64 ht, .int .i64 gap, .int .i64 sp, .slice L ls.length lc], .agg #[.int .i64 BW, .int .i64 ht, .slice A (BW * ht) ac], .int .i64 most] wx fun e w' => ∃ R d, e = .returned (.tuple #[.slice R (SK k).length d, .int .i64 0]) ∧ w'.ownsRow wx.heap.size 45 7 (.slice R (SK k).length d) (SK k).length (snCells (SK k)) ∧ Bl wx w' from
  (readO_any nm ht gap sp L lc ls BW ht A (BW * ht) ac (lineP bs W H X Y BW ht k) most wx hLx hA hnm hn).mono fun e w' ⟨R, m, d, err, he, hr, hb⟩ => by
    obtain ⟨⟨h1, -, h3⟩, h4⟩ := hr
    have hp : pageErr (BW : Int) (ht : Int) (BW * ht) = 0 := by unfold pageErr; rw [if_pos hsz, if_pos (by simp)]
    have herr : err = 0 := by
     rw [h1, hfe, hp, readErr_m (by simp), show inB most 0 1000 = true from inB_true.2 hm]
     rfl
    subst herr
    obtain ⟨hl1, hl2, -⟩ := hll k
    obtain ⟨hm1, -⟩ := h3 rfl
    have h5 := h4 rfl
    simp only [Int.toNat_natCast] at hm1 h5
    rw [← hgs] at hm1 h5
    have hm2 : m = (SK k).length := by rw [← hl2]; exact hm1
    rw [show (lineTo (seeOf (lineP bs W H X Y BW ht k) BW ht ls most ht) gs ht (piecesTo (colN (lineP bs W H X Y BW ht k) BW ht) BW) (piecesTo (colN (lineP bs W H X Y BW ht k) BW ht) BW).length).flatten = snCells (SK k) from hl1] at h5
    subst hm2
    exact ⟨R, d, he, h5, hb⟩
 have hsn := fun k => (hll k).2.2.1
 have hln := fun k => (hll k).2.2.2
 have hps := fun k => lineP_paste (bs := bs) (W := W) (H := H) (X := X) (Y := Y) (bw := BW) (ht := ht) (k := k) (by omega)
 let w1 := (((w).alloc (.cells #[.int .i64 W, .int .i64 H, .slice C (W * H) cc] 24)).alloc (.cells #[.int .i64 X, .int .i64 Y, .int .i64 BW, .int .i64 BH] 26)).alloc (.cells #[.string ⟨nm.toArray⟩, .int .i64 ht, .int .i64 gap, .int .i64 sp, .slice L ls.length lc] 29)
 have w1b : Bl w w1 := (((Bl.refl w).alloc _).alloc _).alloc _
 have w11 : Blk w1 (w.heap.size) 24 #[.int .i64 W, .int .i64 H, .slice C (W * H) cc] := by
  have h0 := Blk.new (w) 24 #[.int .i64 W, .int .i64 H, .slice C (W * H) cc]
  exact ((h0.alloc _).alloc _)
 have w12 : Blk w1 (w.heap.size + 1) 26 #[.int .i64 X, .int .i64 Y, .int .i64 BW, .int .i64 BH] := by
  have h0 := Blk.new ((w).alloc (.cells #[.int .i64 W, .int .i64 H, .slice C (W * H) cc] 24)) 26 #[.int .i64 X, .int .i64 Y, .int .i64 BW, .int .i64 BH]
  simp only [World.size_alloc] at h0
  exact (h0.alloc _)
 have w13 : Blk w1 (w.heap.size + 1 + 1) 29 #[.string ⟨nm.toArray⟩, .int .i64 ht, .int .i64 gap, .int .i64 sp, .slice L ls.length lc] := by
  have h0 := Blk.new (((w).alloc (.cells #[.int .i64 W, .int .i64 H, .slice C (W * H) cc] 24)).alloc (.cells #[.int .i64 X, .int .i64 Y, .int .i64 BW, .int .i64 BH] 26)) 29 #[.string ⟨nm.toArray⟩, .int .i64 ht, .int .i64 gap, .int .i64 sp, .slice L ls.length lc]
  simp only [World.size_alloc] at h0
  exact h0
 have sz1 : w1.heap.size = w.heap.size + 3 := by simp [w1]
 have HL := Lib.hid (hL.bl w1b); have HC := Lib.hid (hC.bl w1b); have HS := Lib.hid hs; have HSz := Lib.hid hsz; have Hrd := Lib.hid hrd; have HSn := Lib.hid hsn; have HLn := Lib.hid hln; have HPs := Lib.hid hps; have HBk := Lib.hid hbk; have HN := Lib.hid hN
 have Hbl := Lib.hid (fun wx => blankB_ok BW ht wx hsz)
 have Hpa := Lib.hid (fun wx bv cv bs' (x y : Int) hA hC hx hy => pasteB_any BW ht W H bv cv (List.replicate (BW * ht) false) bs' x y wx hA hC hsz hs hx hy)
 have Hco := Lib.hid (fun A c k wx hr => cost_any A c (SK k) ht wx hr (hsn k) (by omega) (hln k))
 have k1 := w11.all3
 have k2 := w12.all4
 have k3 := w13.all5
 have HW1b := Lib.hid w1b
 have eN : (ht : Int) - (BH : Int) = ((N - 1 : Nat) : Int) := by omega
 have hN1 : 1 ≤ N ∧ N ≤ 64 := by omega
 clear hL hC hs hsz hrd hll hsn hln hps w1b hfe hltr hgs hSK hrs hrk hbk hN hnm hn hz
 go_enter Tryz.func35, Tryz.ntmps35
 go_upto_region 1 with fail
 rw [show ((w.alloc (.cells #[.int .i64 W, .int .i64 H, .slice C (W * H) cc] 24)).alloc (.cells #[.int .i64 X, .int .i64 Y, .int .i64 BW, .int .i64 BH] 26)).alloc (.cells #[.string ⟨nm.toArray⟩, .int .i64 ht, .int .i64 gap, .int .i64 sp, .slice L ls.length lc] 29) = w1 from rfl]
 clear_value w1
 go_wp2_with fail
 rw [show decide (ht < BH) = false from decide_eq_false (by omega)]
 go_loopw [10, 11, 12] (fun s a u wr => ∃ k : Nat, k ≤ N ∧ u = .int .i64 k ∧ Bl w1 wr ∧ ((k = 0 ∧ s = .slice none 0 0 ∧ a = .int .i64 (-1)) ∨ (0 < k ∧ ∃ (b : Nat) (R : Option Addr) (d : Nat), b = minTo (fun k => costS ht (SK k)) k ∧ s = .slice R (SK b).length d ∧ a = .int .i64 b ∧ wr.ownsRow w1.heap.size 45 7 (.slice R (SK b).length d) (SK b).length (snCells (SK b))))) (fun _ _ u _ => N - (RowKit.intOf u).toNat)
 case atStart => exact ⟨0, Nat.zero_le _, rfl, Bl.refl _, .inl ⟨rfl, rfl, rfl⟩⟩
 case round =>
  obtain ⟨k, hk, rfl, hb, hst⟩ := hrel
  have k1 := (w11.bl hb).all3
  have k2 := (w12.bl hb).all4
  have k3 := (w13.bl hb).all5
  have Hb := Lib.hid hb; have Hst := Lib.hid hst
  clear hb hst
  by_cases hlt : k < N
  · have hle : (k : Int) ≤ ((N - 1 : Nat) : Int) := by omega
    go_upto_region 9 with (go_at_call 86; refine (Hbl.out _).mono ?_; rintro e w2 ⟨v2, rfl, ⟨g2, rfl, hg2, hgl2, hgn2⟩, hb2⟩)
    obtain ⟨o2, ho2⟩ : ∃ x, x = w2.heap.size := ⟨_, rfl⟩
    obtain ⟨w3, hw3⟩ : ∃ x, x = w2.alloc (.cells #[.int .i64 BW, .int .i64 ht, .slice (some ⟨g2, 0, none⟩) (BW * ht) (BW * ht)] 24) := ⟨_, rfl⟩
    have b3 : Blk w3 o2 24 #[.int .i64 BW, .int .i64 ht, .slice (some ⟨g2, 0, none⟩) (BW * ht) (BW * ht)] := by rw [hw3, ho2]; exact Blk.new _ _ _
    have hb3 : Bl w2 w3 := by rw [hw3]; exact (Bl.refl _).alloc _
    rw [← hw3, ← ho2]
    have Hb3 := Lib.hid (Hb.out.trans (hb2.trans hb3)); have Hr3 := Lib.hid (hb2.trans hb3)
    have hcall := Hpa.out w3 _ _ bs (-(X : Int)) ((k : Int) - (Y : Int)) (BPage.is ⟨g2, rfl, hg2.bl hb3, hgl2, Nat.zero_le _⟩) ⟨C, cc, rfl, HC.out.bl Hb3.out⟩ (by omega) (by omega)
    rw [HPs.out k] at hcall
    have Hcall := Lib.hid hcall
    have k1 := (w11.bl Hb3.out).all3
    have k2 := (w12.bl Hb3.out).all4
    have k4 := b3.all3
    clear hw3 ho2 b3 hb3 hb2 hg2 hgl2 hgn2 hcall k3
    go_upto_region 10 with (go_at_call 68; refine Hcall.out.mono ?_; rintro e w4 ⟨v4, rfl, ⟨g4, rfl, hg4, hgl4, hgn4⟩, hb4⟩)
    obtain ⟨o4, ho4⟩ : ∃ x, x = w4.heap.size := ⟨_, rfl⟩
    obtain ⟨w5, hw5⟩ : ∃ x, x = w4.alloc (.cells #[.int .i64 BW, .int .i64 ht, .slice (some ⟨g4, 0, none⟩) (BW * ht) (BW * ht)] 24) := ⟨_, rfl⟩
    have b5 : Blk w5 o4 24 #[.int .i64 BW, .int .i64 ht, .slice (some ⟨g4, 0, none⟩) (BW * ht) (BW * ht)] := by rw [hw5, ho4]; exact Blk.new _ _ _
    have hb5 : Bl w4 w5 := by rw [hw5]; exact (Bl.refl _).alloc _
    rw [← hw5, ← ho4]
    have Hb5 := Lib.hid (Hb3.out.trans (hb4.trans hb5)); have Hr5 := Lib.hid (Hr3.out.trans (hb4.trans hb5))
    have hrow : Reads w5 1 (some ⟨g4, 0, none⟩) (BW * ht) ((lineP bs W H X Y BW ht k).map .bool) := by have h := (hg4.bl hb5).reads (BW * ht) 1 (by simp [hgl4]); simpa using h
    have Hrc := Lib.hid (Hrd.out (some ⟨g4, 0, none⟩) (BW * ht) k w5 hrow (HL.out.bl Hb5.out))
    have k3 := (w13.bl Hb5.out).all5
    have k4 := b5.all3
    clear hw5 ho4 b5 hb5 hb4 hg4 hgl4 hgn4 hrow k1 k2
    go_upto_region 11 with (go_at_call 48; refine Hrc.out.mono ?_; rintro e w6 ⟨R6, d6, rfl, hown6, hb6⟩)
    have Hb6 := Lib.hid (Hb5.out.trans hb6); have Hr6 := Lib.hid (Hr5.out.trans hb6)
    have HO6 := Lib.hid (World.ownsRow.mono hown6 Hb5.out.le)
    have k3 := (w13.bl Hb6.out).all5
    obtain ⟨Rx, cx, ex, hrx⟩ := own_reads hown6
    injection ex with ex1 _ ex2
    subst ex1 ex2
    have Hrx := Lib.hid hrx
    have hk1 : (k : Int) + 1 ≤ 64 := by omega
    clear hb6 hown6 hrx k4
    rcases Hst.out with ⟨rfl, rfl, rfl⟩ | ⟨hk0, b, R, d, hbm, rfl, rfl, hown⟩
    · skip
      refine wp_region_flow [(true, 0), (true, 1), (true, 2), (true, 3), (true, 4), (true, 5), (true, 7), (true, 8), (true, 9), (false, 6), (false, 10), (true, 11), (true, 12)] (fun _ => false) (by kernel_rfl) (by kernel_rfl) (by kernel_rfl) (by kernel_rfl) ?_
      iterate 1
       apply Flow.mv _ rfl
       · intro K' hK'
         simp only [sqA, Act.eval, arr_getD, List.getD_cons_zero, List.getD_cons_succ]
         exact hK'
      iterate 1
       apply Flow.calm2 _ _ rfl rfl
       · intro w' hb' K' hK'
         obtain ⟨hc', hf'⟩ := hb'.rule
         go_simp
         try go_ints
         exact hK'
       · intro K' hK'
         simp only [sqA]
         exact hK'
      iterate 1
       apply Flow.mv _ rfl
       · intro K' hK'
         simp only [sqA, Act.eval, arr_getD, List.getD_cons_zero, List.getD_cons_succ]
         exact hK'
      iterate 6
       first
        | (apply Flow.pass rfl (by rfl))
        | (apply Flow.calmG _ rfl (by rfl)
           · intro w' hb'
             obtain ⟨hc', hf'⟩ := hb'.rule
             go_simp
             all_goals (try rfl))
       simp only [sqA]
       try go_ints
      -- a guarded mover
      apply Flow.move rfl
      go_wp2_with fail
      first | refine ⟨fun _ => Bl.refl _, ?_⟩ | refine ⟨Bl.refl _, ?_⟩
      -- a guarded mover
      apply Flow.move rfl
      go_wp2_with fail
      first | refine ⟨fun _ => Bl.refl _, ?_⟩ | refine ⟨Bl.refl _, ?_⟩
      first
       | (apply Flow.pass rfl (by rfl))
       | (apply Flow.calmG _ rfl (by rfl)
          · intro w' hb'
            obtain ⟨hc', hf'⟩ := hb'.rule
            go_simp
            all_goals (try rfl))
      simp only [sqA]
      try go_ints
      iterate 1
       apply Flow.calm2 _ _ rfl rfl
       · intro w' hb' K' hK'
         obtain ⟨hc', hf'⟩ := hb'.rule
         go_simp
         try go_ints
         exact hK'
       · intro K' hK'
         simp only [sqA]
         exact hK'
      refine Flow.done ?_
      go_wp2_with fail
      exact ⟨⟨1, by omega, by go_num, Hb6.out.drew, .inr ⟨by omega, 0, R6, d6, rfl, rfl, rfl, own_bl HO6.out (Bl.refl _).drew⟩⟩, by simp [RowKit.intOf]; omega⟩
    · have HOb := Lib.hid (own_bl hown Hr6.out)
      obtain ⟨Ry, cy, ey, hry⟩ := own_reads HOb.out
      injection ey with ey1 _ ey2
      subst ey1 ey2
      have Hry := Lib.hid hry
      have hcb := Hco.out R6 d6 k
      have HBm := Lib.hid hbm
      obtain ⟨cK, hcK⟩ : ∃ x, x = costS ht (SK k) := ⟨_, rfl⟩
      obtain ⟨cB, hcB⟩ : ∃ x, x = costS ht (SK b) := ⟨_, rfl⟩
      have HcK := Lib.hid hcK; have HcB := Lib.hid hcB
      have Hc1 := Lib.hid (fun wx (h : Bl w6 wx) => show Calls Tryz.prog 87 #[.slice R6 (SK k).length d6, .int .i64 ht] wx fun e w' => e = .returned (.int .i64 cK) ∧ Bl wx w' by rw [hcK]; exact Hco.out R6 d6 k wx (Hrx.out.bl h))
      have Hc2 := Lib.hid (fun wx (h : Bl w6 wx) => show Calls Tryz.prog 87 #[.slice R (SK b).length d, .int .i64 ht] wx fun e w' => e = .returned (.int .i64 cB) ∧ Bl wx w' by rw [hcB]; exact Hco.out R d b wx (Hry.out.bl h))
      have hbn : ¬ ((b : Int) < 0) := by omega
      clear hbm hry hcb hcK hcB hown
      refine wp_region_flow [(true, 0), (true, 1), (true, 2), (true, 3), (true, 4), (true, 5), (true, 7), (true, 8), (true, 9), (false, 6), (false, 10), (true, 11), (true, 12)] (fun _ => false) (by kernel_rfl) (by kernel_rfl) (by kernel_rfl) (by kernel_rfl) ?_
      iterate 1
       apply Flow.mv _ rfl
       · intro K' hK'
         simp only [sqA, Act.eval, arr_getD, List.getD_cons_zero, List.getD_cons_succ]
         exact hK'
      iterate 1
       apply Flow.calm2 _ _ rfl rfl
       · intro w' hb' K' hK'
         obtain ⟨hc', hf'⟩ := hb'.rule
         go_simp
         try go_ints
         exact hK'
       · intro K' hK'
         simp only [sqA]
         exact hK'
      iterate 1
       apply Flow.mv _ rfl
       · intro K' hK'
         simp only [sqA, Act.eval, arr_getD, List.getD_cons_zero, List.getD_cons_succ]
         exact hK'
      iterate 6
       first
        | (apply Flow.pass rfl (by rfl))
        | (apply Flow.calmG _ rfl (by rfl)
           · intro w' hb'
             obtain ⟨hc', hf'⟩ := hb'.rule
             go_simp
             all_goals (try rfl))
       simp only [sqA]
       try go_ints
      -- a guarded mover
      apply Flow.move rfl
      go_wp2_with fail
      refine (Hc1.out _ (Bl.refl _).drew).mono ?_
      rintro e w7 ⟨rfl, HB1⟩
      have hb7 : Bl w6 w7 := Bl.ofDrew HB1
      have k3 := (w13.bl (Hb6.out.trans hb7)).all5
      go_wp2_with fail
      refine ⟨fun _ => (by first | exact HB1 | exact Bl.refl _), ?_⟩
      -- a guarded mover
      apply Flow.move rfl
      go_wp2_with fail
      refine (Hc2.out _ hb7).mono ?_
      rintro e w8 ⟨rfl, HB2⟩
      have hb8 : Bl w6 w8 := hb7.trans HB2
      go_wp2_with fail
      refine ⟨fun _ => (by first | exact HB2 | exact Bl.refl _), ?_⟩
      first
       | (apply Flow.pass rfl (by rfl))
       | (apply Flow.calmG _ rfl (by rfl)
          · intro w' hb'
            obtain ⟨hc', hf'⟩ := hb'.rule
            go_simp
            all_goals (try rfl))
      simp only [sqA]
      try go_ints
      iterate 1
       apply Flow.calm2 _ _ rfl rfl
       · intro w' hb' K' hK'
         obtain ⟨hc', hf'⟩ := hb'.rule
         go_simp
         try go_ints
         exact hK'
       · intro K' hK'
         simp only [sqA]
         exact hK'
      refine Flow.done ?_
      have Hb8 := Lib.hid hb8
      clear HB1 HB2 hb7 hb8
      by_cases hc : cK < cB
      · have HX := Lib.hid (show k = minTo (fun k => costS ht (SK k)) (k + 1) by
         refine (minTo_new hk0 ?_).symm
         show costS ht (SK k) < costS ht (SK (minTo (fun k => costS ht (SK k)) k))
         rw [← HBm.out, ← HcK.out, ← HcB.out]
         exact hc)
        go_wp2_with fail
        exact ⟨⟨k + 1, hlt, by go_num, Hb6.out.trans Hb8.out, .inr ⟨Nat.succ_pos _, k, R6, d6, HX.out, rfl, rfl, own_bl HO6.out Hb8.out⟩⟩, by simp [RowKit.intOf]; omega⟩
      · have HX := Lib.hid (show b = minTo (fun k => costS ht (SK k)) (k + 1) by
         rw [HBm.out]
         refine (minTo_old hk0 ?_).symm
         show ¬ costS ht (SK k) < costS ht (SK (minTo (fun k => costS ht (SK k)) k))
         rw [← HBm.out, ← HcK.out, ← HcB.out]
         exact hc)
        go_wp2_with fail
        exact ⟨⟨k + 1, hlt, by go_num, Hb6.out.trans Hb8.out, .inr ⟨Nat.succ_pos _, b, R, d, HX.out, rfl, rfl, own_bl HOb.out Hb8.out⟩⟩, by simp [RowKit.intOf]; omega⟩
  · obtain rfl : k = N := by omega
    rcases Hst.out with ⟨h0, -, -⟩ | ⟨hk0, b, R, d, hbm, rfl, rfl, hown⟩
    · omega
    obtain rfl : b = bk := hbm.trans HBk.out.symm
    obtain ⟨SS, hSS⟩ : ∃ z, z = SK b := ⟨_, rfl⟩
    have hsl := HSn.out b
    have hnl := HLn.out b
    rw [← hSS] at hown hsl hnl ⊢
    have HO := Lib.hid (show wr.ownsRow w1.heap.size 45 7 (.slice R SS.length d) SS.length (snCells (movedTo SS X ((Y : Int) - (b : Int)) 0)) by rw [movedTo_zero]; exact hown)
    have HSl := Lib.hid hsl; have HSS := Lib.hid hSS
    have hnk : ¬ ((k : Int) ≤ ((k - 1 : Nat) : Int)) := by omega
    have hb4 : b ≤ 64 := by omega
    clear hown hbm hSS hsl k1 hk hlt hk0
    go_wp2_with fail
    clear k2 k3
    go_loopw [82] (fun u wy => ∃ i : Nat, i ≤ SS.length ∧ u = .int .i64 i ∧ Bl w1 wy ∧ wy.ownsRow w1.heap.size 45 7 (.slice R SS.length d) SS.length (snCells (movedTo SS X ((Y : Int) - (b : Int)) i))) (fun u _ => SS.length - (RowKit.intOf u).toNat)
    case atStart => exact ⟨0, Nat.zero_le _, rfl, Hb.out, HO.out⟩
    case round =>
     rename World => wy
     obtain ⟨i, hi, rfl, hby, hoy⟩ := hrel
     have k2 := (w12.bl hby).all4
     by_cases hil : i < SS.length
     · have hg : SS[i]? = some SS[i] := List.getElem?_eq_getElem hil
       obtain ⟨s, hs0⟩ : ∃ z, z = SS[i] := ⟨_, rfl⟩
       rw [← hs0] at hg
       have hsn := HSl.out s (List.mem_of_getElem? hg)
       have hmv := movedTo_at (dx := X) (dy := (Y : Int) - (b : Int)) hg
       have hmn := movedTo_succ (dx := X) (dy := (Y : Int) - (b : Int)) hg
       obtain ⟨M0, hM0⟩ : ∃ z, z = movedTo SS X ((Y : Int) - (b : Int)) i := ⟨_, rfl⟩
       rw [← hM0] at hoy hmv hmn
       obtain ⟨g, cap, eg, hgb, hcap⟩ := own_some hoy (by omega)
       injection eg with eg1 _ eg2
       subst eg1 eg2
       have hgl := own_lt hoy
       obtain ⟨-, hfz⟩ := own_blk hoy
       have c1 : wy.cell? ⟨g, i * 7 + 1, none⟩ = some (.int .i64 s.X) := own_cell hoy (by rw [snCells_at hmv 1 (by omega)]; rfl)
       have c2 : wy.cell? ⟨g, i * 7 + 2, none⟩ = some (.int .i64 s.Y) := own_cell hoy (by rw [snCells_at hmv 2 (by omega)]; rfl)
       have ho1 := ownsRow_set hoy (i * 7 + 1) (.int .i64 (s.X + X))
       rw [← snCells_set (s' := ⟨s.t, s.X + X, s.Y, s.W, s.H, s.d, s.e⟩) hmv 1 (.int .i64 (s.X + X)) (by omega) rfl] at ho1
       have hm1 : (M0.set i ⟨s.t, s.X + X, s.Y, s.W, s.H, s.d, s.e⟩)[i]? = some ⟨s.t, s.X + X, s.Y, s.W, s.H, s.d, s.e⟩ := by
        rw [List.getElem?_set_self (by rw [hM0, movedTo_len]; exact hil)]
       have hX := hsn.X
       have hY := hsn.Y
       have Hho1 := Lib.hid ho1; have Hm1 := Lib.hid hm1; have Hmn := Lib.hid hmn; have Hby := Lib.hid hby; have Hgb := Lib.hid hgb; have HY := Lib.hid hY
       have hiI : (i : Int) < (SS.length : Int) := by omega
       clear hg hs0 hsn hmv hmn hM0 hoy ho1 hm1 hby hgb hY c2
       go_upto_region 16 with fail
       refine wp_region_flow [(true, 0), (true, 1), (true, 2), (true, 3), (true, 4), (true, 5), (true, 6), (true, 7), (true, 8), (true, 9), (true, 10), (true, 11), (false, 12)] (fun i => i == 12) (by kernel_rfl) (by kernel_rfl) (by kernel_rfl) (by kernel_rfl) ?_
       iterate 2
        apply Flow.mv _ rfl
        · intro K' hK'
          simp only [sqA, Act.eval, arr_getD, List.getD_cons_zero, List.getD_cons_succ]
          exact hK'
       iterate 10
        apply Flow.calm2 _ _ rfl rfl
        · intro w' hb' K' hK'
          obtain ⟨hc', hf'⟩ := hb'.rule
          go_simp
          try go_ints
          exact hK'
        · intro K' hK'
          simp only [sqA]
          exact hK'
       refine Flow.tail _ rfl ?_
       go_wp2_with fail
       obtain ⟨w2, hw2⟩ : ∃ x, x = (wy.setCell ⟨g, i * 7 + 1, none⟩ (.int .i64 (s.X + X))).drew := ⟨_, rfl⟩
       have hb2 : Bl w1 w2 := by rw [hw2]; exact (Hby.out.setCell Hgb.out _).drew
       have o2 : w2.ownsRow w1.heap.size 45 7 (.slice (some ⟨g, 0, none⟩) SS.length d) SS.length (snCells (M0.set i ⟨s.t, s.X + X, s.Y, s.W, s.H, s.d, s.e⟩)) := by rw [hw2]; exact own_bl Hho1.out (Bl.refl _).drew
       rw [← hw2]
       have c2 : w2.cell? ⟨g, i * 7 + 2, none⟩ = some (.int .i64 0) := own_cell o2 (by rw [snCells_at Hm1.out 2 (by omega)]; show some (Value.int .i64 s.Y) = _; rw [HY.out])
       obtain ⟨-, hfz2⟩ := own_blk o2
       have hgl2 := own_lt o2
       have ho2 := ownsRow_set o2 (i * 7 + 2) (.int .i64 ((Y : Int) - (b : Int)))
       rw [← snCells_set (s' := s.moved X ((Y : Int) - (b : Int))) Hm1.out 2 (.int .i64 ((Y : Int) - (b : Int))) (by omega) (by show Sn.cells ⟨s.t, s.X + X, s.Y + ((Y : Int) - (b : Int)), s.W, s.H, s.d, s.e⟩ = _; rw [HY.out, Int.zero_add]; rfl), List.set_set, ← Hmn.out] at ho2
       have HO2 := Lib.hid ho2; have Hb2 := Lib.hid hb2
       have k2 := (w12.bl hb2).all4
       clear hw2 hb2 o2 ho2 c1 hfz hgl
       refine wp_region_flow [(true, 0), (true, 1), (true, 2), (true, 3), (true, 4), (true, 5), (true, 6), (true, 7), (true, 8), (true, 9), (true, 10), (true, 11), (true, 12), (true, 13), (false, 14)] (fun i => i == 14) (by kernel_rfl) (by kernel_rfl) (by kernel_rfl) (by kernel_rfl) ?_
       iterate 2
        apply Flow.mv _ rfl
        · intro K' hK'
          simp only [sqA, Act.eval, arr_getD, List.getD_cons_zero, List.getD_cons_succ]
          exact hK'
       iterate 6
        apply Flow.calm2 _ _ rfl rfl
        · intro w' hb' K' hK'
          obtain ⟨hc', hf'⟩ := hb'.rule
          go_simp
          try go_ints
          exact hK'
        · intro K' hK'
          simp only [sqA]
          exact hK'
       iterate 1
        apply Flow.mv _ rfl
        · intro K' hK'
          simp only [sqA, Act.eval, arr_getD, List.getD_cons_zero, List.getD_cons_succ]
          exact hK'
       iterate 5
        apply Flow.calm2 _ _ rfl rfl
        · intro w' hb' K' hK'
          obtain ⟨hc', hf'⟩ := hb'.rule
          go_simp
          try go_ints
          exact hK'
        · intro K' hK'
          simp only [sqA]
          exact hK'
       refine Flow.tail _ rfl ?_
       go_wp2_with fail
       exact ⟨⟨i + 1, hil, by go_num, (Hb2.out.setCell Hgb.out _).drew, own_bl HO2.out (Bl.refl _).drew⟩, by simp [RowKit.intOf]; omega⟩
     · obtain rfl : i = SS.length := by omega
       rw [movedTo_all] at hoy
       obtain ⟨Rz, cz, ez, hrz⟩ := own_reads hoy
       injection ez with ez1 _ ez2
       subst ez1 ez2
       obtain ⟨Rz, cz, ez, -, hnz⟩ := own_new hoy
       injection ez with ez1 _ ez2
       subst ez1 ez2
       have Hrz := Lib.hid hrz; have Hnz := Lib.hid hnz; have Hby := Lib.hid hby
       have hml : (SS.map (fun s => s.moved X ((Y : Int) - (b : Int)))).length = SS.length := by rw [List.length_map]
       clear hoy hby hrz hnz
       go_wp2_with fail
       have hss := HSS.out
       subst hss
       refine bodyPost_ret (v := .tuple #[.slice R (SK b).length d, .int .i64 b]) (by simp [results, Tryz.results35, go_sem]) rfl ⟨⟨R, d, by rw [hml], by rw [hml]; exact Hrz.out, fun ad h => by have := Hnz.out ad h; omega⟩, HW1b.out.trans Hby.out⟩
end Go.Proofs.YthobmednnocklaaGreatDoor
