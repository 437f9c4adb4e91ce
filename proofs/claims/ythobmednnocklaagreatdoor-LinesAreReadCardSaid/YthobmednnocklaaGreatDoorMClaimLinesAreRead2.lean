/- Rows that a call owns, and rows that lie: cells that are set, rows that grow. -/
import Derived.Test.YthobmednnocklaaGreatDoorMClaimLinesAreRead1
import Derived.Test.YthobmednnocklaaGreatDoorMClaimLinesAreRead0

namespace Go.Proofs.YthobmednnocklaaGreatDoor
open Go.RowKit

set_option maxRecDepth 100000 in
set_option maxHeartbeats 4000000 in
theorem inkOf_any (W H X Y BW BH : Nat) (A : Option Addr) (ac : Nat) (bs : List Bool) (w : World) (hA : Reads w 1 A (W * H) (bs.map .bool)) (hW : W ≤ 4000) (hH : H ≤ 4000) (hX : X + BW ≤ W) (hY : Y + BH ≤ H) :
 Calls Tryz.prog 90 #[.agg #[.int .i64 W, .int .i64 H, .slice A (W * H) ac], .agg #[.int .i64 X, .int .i64 Y, .int .i64 BW, .int .i64 BH]] w fun e w' => e = .returned (.int .i64 (inkN bs W X Y BW BH)) ∧ Bl w w' := by
 let w2 := ((w).alloc (.cells #[.int .i64 W, .int .i64 H, .slice A (W * H) ac] 24)).alloc (.cells #[.int .i64 X, .int .i64 Y, .int .i64 BW, .int .i64 BH] 26)
 have w2b : Bl w w2 := ((Bl.refl w).alloc _).alloc _
 have w21 : Blk w2 (w.heap.size) 24 #[.int .i64 W, .int .i64 H, .slice A (W * H) ac] := by
  have h0 := Blk.new (w) 24 #[.int .i64 W, .int .i64 H, .slice A (W * H) ac]
  exact (h0.alloc _)
 have w22 : Blk w2 (w.heap.size + 1) 26 #[.int .i64 X, .int .i64 Y, .int .i64 BW, .int .i64 BH] := by
  have h0 := Blk.new ((w).alloc (.cells #[.int .i64 W, .int .i64 H, .slice A (W * H) ac] 24)) 26 #[.int .i64 X, .int .i64 Y, .int .i64 BW, .int .i64 BH]
  simp only [World.size_alloc] at h0
  exact h0
 have k2 := w22.all4
 have HA := Lib.hid (hA.bl w2b)
 clear hA
 go_enter Tryz.func90, Tryz.ntmps90
 go_wp2_with fail
 go_loopw [5, 6] (fun n u wr => ∃ j : Nat, j ≤ BH ∧ u = .int .i64 ((Y : Int) + j) ∧ n = .int .i64 (inkN bs W X Y BW j) ∧ Bl w2 wr) (fun _ u _ => Y + BH - (intOf u).toNat)
 case atStart => exact ⟨0, Nat.zero_le _, by simp, rfl, Bl.refl _⟩
 case round =>
  clear k2
  obtain ⟨j, hj, rfl, rfl, hbr⟩ := hrel
  have k2 := (w22.bl hbr).all4
  by_cases hlt : j < BH
  · have d1 : (Y : Int) + (j : Int) < (Y : Int) + (BH : Int) := by omega
    go_wp2_with fail
    go_loopw [5, 7] (fun n u wr => ∃ i : Nat, i ≤ BW ∧ u = .int .i64 ((X : Int) + i) ∧ n = .int .i64 (((inkN bs W X Y BW j + sumN (fun i => b1 (pix bs W (X + i) (Y + j))) i : Nat)) : Int) ∧ Bl w2 wr) (fun _ u _ => X + BW - (intOf u).toNat)
    case atStart => exact ⟨0, Nat.zero_le _, by simp, rfl, hbr⟩
    case round =>
     clear k2 hbr
     rename_i wo _ _ _
     obtain ⟨i, hi, rfl, rfl, hbr⟩ := hrel
     have k1 := (w21.bl hbr).all3
     have k2 := (w22.bl hbr).all4
     by_cases hlt2 : i < BW
     · have d2 : (X : Int) + (i : Int) < (X : Int) + (BW : Int) := by omega
       have hat := at_any W H A ac bs (((X + i : Nat)) : Int) (((Y + j : Nat)) : Int) wr (HA.out.bl hbr) hW hH
       rw [atI_in bs W H (X + i) (Y + j) (by omega) (by omega)] at hat
       have hst : sumN (fun i => b1 (pix bs W (X + i) (Y + j))) (i + 1) = sumN (fun i => b1 (pix bs W (X + i) (Y + j))) i + b1 (pix bs W (X + i) (Y + j)) := rfl
       have hle : sumN (fun i => b1 (pix bs W (X + i) (Y + j))) i ≤ i * 1 := sumN_le (fun _ => b1_le _) i
       have hle2 : inkN bs W X Y BW j ≤ j * BW := sumN_le (fun k => by have := sumN_le (f := fun i => b1 (pix bs W (X + i) (Y + k))) (c := 1) (fun _ => b1_le _) BW; simpa using this) j
       have hle3 := Nat.mul_le_mul (show j ≤ 4000 by omega) (show BW ≤ 4000 by omega)
       obtain ⟨n, hn⟩ : ∃ n, n = sumN (fun i => b1 (pix bs W (X + i) (Y + j))) i := ⟨_, rfl⟩
       obtain ⟨va, hva⟩ : ∃ v, v = pix bs W (X + i) (Y + j) := ⟨_, rfl⟩
       obtain ⟨q, hq⟩ : ∃ q, q = inkN bs W X Y BW j := ⟨_, rfl⟩
       rw [← hn, ← hva] at hst
       rw [← hn] at hle ⊢
       rw [← hva] at hat
       rw [← hq] at hle2 ⊢
       have ex : (((X + i : Nat)) : Int) = (X : Int) + (i : Int) := by simp
       have ey : (((Y + j : Nat)) : Int) = (Y : Int) + (j : Int) := by simp
       rw [ex, ey] at hat
       have Hat := Lib.hid hat; have Hst := Lib.hid hst; have Hq := Lib.hid hq
       clear hat hst hn hva ex ey hq
       cases va
       all_goals
        go_wp2_with fail
        refine Hat.out.mono ?_
        rintro e w1 ⟨rfl, hb1⟩
        go_wp2_with fail
        exact ⟨⟨i + 1, hlt2, by go_num, by rw [Hst.out]; first | (congr 1; done) | (congr 1; simp [b1]; done) | (congr 1; simp [b1]; omega), hbr.trans hb1⟩, by simp [intOf]; omega⟩
     · obtain rfl : i = BW := by omega
       go_wp2_with fail
       exact ⟨⟨j + 1, hlt, by go_num, rfl, hbr⟩, by simp [intOf]; omega⟩
  · obtain rfl : j = BH := by omega
    go_wp2_with fail
    go_ret
    exact ⟨rfl, w2b.trans hbr⟩

set_option maxRecDepth 100000 in
set_option maxHeartbeats 2000000 in
theorem columnsOf_any (W H : Nat) (A : Option Addr) (ac : Nat) (bs : List Bool) (w : World) (hA : Reads w 1 A (W * H) (bs.map .bool)) (hW : W ≤ 4000) (hH : H ≤ 4000) :
 Calls Tryz.prog 41 #[.agg #[.int .i64 W, .int .i64 H, .slice A (W * H) ac]] w fun e w' => ∃ P c, e = .returned (.slice P W c) ∧ Reads w' 1 P W ((tabL W (colI bs W H)).map (.int .i64)) ∧ Bl w w' := by
 let w2 := (w).alloc (.cells #[.int .i64 W, .int .i64 H, .slice A (W * H) ac] 24)
 have w2b : Bl w w2 := (Bl.refl w).alloc _
 have w21 : Blk w2 (w.heap.size) 24 #[.int .i64 W, .int .i64 H, .slice A (W * H) ac] := by
  have h0 := Blk.new (w) 24 #[.int .i64 W, .int .i64 H, .slice A (W * H) ac]
  exact h0
 have k1 := w21.all3
 have lw2 : w2.heap.size = w.heap.size + 1 := by simp [w2]
 have HA := Lib.hid (hA.bl w2b)
 have ho0 : w2.ownsRow (w.heap.size + 1) 3 1 (.slice none 0 0) 0 ((tabL 0 (colI bs W H)).map (.int .i64)) := World.ownsRow_nil _ _ _ _
 have Ho0 := Lib.hid ho0
 clear hA ho0
 go_enter Tryz.func41, Tryz.ntmps41
 go_wp2_with fail
 go_loopw [3, 7] (fun v u wr => ∃ k : Nat, k ≤ W ∧ u = .int .i64 k ∧ Bl w2 wr ∧ wr.ownsRow (w.heap.size + 1) 3 1 v k ((tabL k (colI bs W H)).map (.int .i64))) (fun _ u _ => W - (intOf u).toNat)
 case atStart => exact ⟨0, Nat.zero_le _, rfl, Bl.refl _, Ho0.out⟩
 case round =>
  clear k1
  obtain ⟨k, hk, rfl, hbr, hown⟩ := hrel
  have k1 := (w21.bl hbr).all3
  by_cases hlt : k < W
  · have hcall := inkOf_any W H k 0 1 H A ac bs wr (HA.out.bl hbr) hW hH (by omega) (by omega)
    rw [ink_col] at hcall
    have htl : (tabL (k + 1) (colI bs W H)).map (Value.int .i64) = (tabL k (colI bs W H)).map (Value.int .i64) ++ [Value.int .i64 ((colI bs W H) k)] := by simp [tabL, List.range_succ]
    have Hcall := Lib.hid hcall; have Htl := Lib.hid htl
    clear hcall htl
    go_wp2_with fail
    refine Hcall.out.mono ?_
    rintro e w1 ⟨rfl, hb1⟩
    have hown1 := own_bl hown hb1
    have hbr1 := hbr.trans hb1
    clear hown
    go_wp2_with (at_builtin; refine wpList_append_one rfl (.tmp 10) (.tmp 17) 57 rfl 3 (.int .i64 0) 8 Tryz.underlying57 info_int rfl (w.heap.size + 1) _ _ _ rfl _ rfl rfl hbr1 (by omega) (by have := hbr1.le; omega) hown1 (by omega) (by unfold maxLen; omega) ?_; intro v' w' hown' hb' _)
    exact ⟨⟨k + 1, hlt, by go_num, hb', by rw [Htl.out]; exact hown'⟩, by simp [intOf]; omega⟩
  · obtain rfl : k = W := by omega
    obtain ⟨P, c, rfl, hp⟩ := own_reads hown
    go_wp2_with fail
    go_ret
    exact ⟨_, _, rfl, hp, w2b.trans hbr⟩

/-! ### Ends -/
end Go.Proofs.YthobmednnocklaaGreatDoor


/-! What holds of a font whose error is 0. -/
namespace Go.Proofs.YthobmednnocklaaGreatDoor
open Go.RowKit

theorem firstNZ_zero {es : List Int} (h : firstNZ es = 0) : ∀ e ∈ es, e = 0 := by
 induction es with
 | nil => intro e he; cases he
 | cons x es ih =>
  have h' : (if x = 0 then firstNZ es else x) = 0 := h
  by_cases h0 : x = 0
  · rw [if_pos h0] at h'
    intro e he
    rcases List.mem_cons.1 he with rfl | he
    · exact h0
    · exact ih h' e he
  · rw [if_neg h0] at h'
    exact absurd h' h0
theorem whenI_zero {b : Bool} {n : Int} (h : whenI b n = 0) (hn : n ≠ 0) : b = false := by
 cases b
 · rfl
 · exact absurd h hn
theorem ltrsErr_zero {ht : Int} {ls : List Ltr} : ∀ {prev : List (List UInt8)}, ltrsErr ht prev ls = 0 → ∀ l ∈ ls, textB l.text = true ∧ pageErr l.W l.H l.m = 0 ∧ l.H = ht ∧ l.W ≤ 64 := by
 induction ls with
 | nil => intro prev _ l hl; cases hl
 | cons x ls ih =>
  intro prev h l hl
  have h' : (if ltrErr ht prev x = 0 then ltrsErr ht (prev ++ [x.text]) ls else ltrErr ht prev x) = 0 := h
  by_cases h0 : ltrErr ht prev x = 0
  · rw [if_pos h0] at h'
    rcases List.mem_cons.1 hl with rfl | hl
    · have hz := firstNZ_zero h0
      have k1 := whenI_zero (hz _ (by simp : whenI (!textB l.text) 2 ∈ _)) (by decide)
      have k2 := hz (pageErr l.W l.H l.m) (by simp)
      have k3 := whenI_zero (hz (whenI (l.H != ht) 11) (by simp)) (by decide)
      have k4 := whenI_zero (hz (whenI (decide (64 < l.W)) 4) (by simp)) (by decide)
      refine ⟨by simpa using k1, k2, by simpa using k3, ?_⟩
      have := of_decide_eq_false k4
      omega
    · exact ih h' l hl
  · rw [if_neg h0] at h'
    exact absurd h' h0
theorem fontErr_zero {nm : Bool} {ht gap sp : Int} {ls : List Ltr} (h : fontErr nm ht gap sp ls = 0) : (nm = true ∧ rangeB ht gap sp = true ∧ gap < sp ∧ ls.length ≠ 0 ∧ ls.length ≤ 200 ∧ 1 ≤ ht ∧ ht ≤ 64) ∧ ∀ l ∈ ls, textB l.text = true ∧ pageErr l.W l.H l.m = 0 ∧ l.H = ht ∧ l.W ≤ 64 := by
 have h' : (if fontHead nm ht gap sp ls.length = 0 then ltrsErr ht [] ls else fontHead nm ht gap sp ls.length) = 0 := h
 by_cases h0 : fontHead nm ht gap sp ls.length = 0
 · rw [if_pos h0] at h'
   refine ⟨?_, ltrsErr_zero h'⟩
   have hz := firstNZ_zero h0
   have k1 := whenI_zero (hz (whenI (!nm) 5) (by simp)) (by decide)
   have k2 := whenI_zero (hz (whenI (!rangeB ht gap sp) 3) (by simp)) (by decide)
   have k3 := of_decide_eq_false (whenI_zero (hz (whenI (decide (sp ≤ gap)) 7) (by simp)) (by decide))
   have k4 := of_decide_eq_false (whenI_zero (hz (whenI (decide (ls.length = 0)) 9) (by simp)) (by decide))
   have k5 := of_decide_eq_false (whenI_zero (hz (whenI (decide (200 < ls.length)) 4) (by simp)) (by decide))
   have k2' : rangeB ht gap sp = true := by simpa using k2
   have k6 : inB ht 1 64 = true := by
    unfold rangeB at k2'
    simp only [Bool.and_eq_true] at k2'
    exact k2'.1
   have k7 := inB_true.1 k6
   exact ⟨by simpa using k1, k2', by omega, k4, by omega, k7.1, k7.2⟩
 · rw [if_neg h0] at h'
   exact absurd h' h0

end Go.Proofs.YthobmednnocklaaGreatDoor


/-! boxes in pages, Cut and Ink. -/
namespace Go.Proofs.YthobmednnocklaaGreatDoor
open Go.RowKit

/-! ### boxes -/
def inPageB (X Y BW BH W H : Int) : Bool := decide (0 ≤ X ∧ X < W ∧ 0 ≤ Y ∧ Y < H ∧ 1 ≤ BW ∧ BW ≤ W - X ∧ 1 ≤ BH ∧ BH ≤ H - Y)
def inPageW (X Y BW BH W H : Int) : Bool := inB X 0 (wrap64 (W - 1)) && (inB Y 0 (wrap64 (H - 1)) && (inB BW 1 (wrap64 (W - X)) && inB BH 1 (wrap64 (H - Y))))
theorem inPageW_eq {X Y BW BH W H : Int} (hW : 1 ≤ W ∧ W ≤ 4000) (hH : 1 ≤ H ∧ H ≤ 4000) : inPageW X Y BW BH W H = inPageB X Y BW BH W H := by
 have e1 : wrap64 (W - 1) = W - 1 := by unfold wrap64; omega
 have e2 : wrap64 (H - 1) = H - 1 := by unfold wrap64; omega
 rw [Bool.eq_iff_iff]
 unfold inPageW inPageB
 simp only [e1, e2, Bool.and_eq_true, inB_true, decide_eq_true_eq]
 constructor
 · rintro ⟨h1, h2, h3, h4⟩
   have e3 : wrap64 (W - X) = W - X := by unfold wrap64; omega
   have e4 : wrap64 (H - Y) = H - Y := by unfold wrap64; omega
   rw [e3] at h3
   rw [e4] at h4
   omega
 · rintro ⟨h1, h2, h3, h4, h5⟩
   have e3 : wrap64 (W - X) = W - X := by unfold wrap64; omega
   have e4 : wrap64 (H - Y) = H - Y := by unfold wrap64; omega
   rw [e3, e4]
   omega

set_option maxHeartbeats 1000000 in
theorem inPageOf_any (X Y BW BH W H : Int) (w : World) :
 Calls Tryz.prog 11 #[.agg #[.int .i64 X, .int .i64 Y, .int .i64 BW, .int .i64 BH], .int .i64 W, .int .i64 H] w fun e w' => e = .returned (.bool (inPageW X Y BW BH W H)) ∧ Bl w w' := by
 unfold inPageW
 cases h1 : inB X 0 (wrap64 (W - 1))
 case false =>
  go_enter Tryz.func11, Tryz.ntmps11
  go_wp2_with (go_at_call 12; refine (in_any _ _ _ _).mono ?_; rintro e w' ⟨rfl, rfl⟩)
  go_ret
  exact ⟨rfl, (Bl.refl _).alloc _⟩
 case true =>
  cases h2 : inB Y 0 (wrap64 (H - 1))
  case false =>
   go_enter Tryz.func11, Tryz.ntmps11
   go_wp2_with (go_at_call 12; refine (in_any _ _ _ _).mono ?_; rintro e w' ⟨rfl, rfl⟩)
   go_ret
   exact ⟨rfl, (Bl.refl _).alloc _⟩
  case true =>
   cases h3 : inB BW 1 (wrap64 (W - X))
   case false =>
    go_enter Tryz.func11, Tryz.ntmps11
    go_wp2_with (go_at_call 12; refine (in_any _ _ _ _).mono ?_; rintro e w' ⟨rfl, rfl⟩)
    go_ret
    exact ⟨rfl, (Bl.refl _).alloc _⟩
   case true =>
    go_enter Tryz.func11, Tryz.ntmps11
    go_wp2_with (go_at_call 12; refine (in_any _ _ _ _).mono ?_; rintro e w' ⟨rfl, rfl⟩)
    go_ret
    exact ⟨by simp, (Bl.refl _).alloc _⟩

set_option maxRecDepth 100000 in
set_option maxHeartbeats 2000000 in
theorem inPage_any (X Y BW BH : Int) (W H : Nat) (w : World) (hW : 1 ≤ W ∧ W ≤ 4000) (hH : 1 ≤ H ∧ H ≤ 4000) :
 Calls Tryz.prog 85 #[.agg #[.int .i64 X, .int .i64 Y, .int .i64 BW, .int .i64 BH], .int .i64 W, .int .i64 H] w fun e w' => e = .returned (.int .i64 (whenI (!inPageB X Y BW BH W H) 13)) ∧ Bl w w' := by
 by_cases hall : 0 ≤ X ∧ X < W ∧ 0 ≤ Y ∧ Y < H ∧ 1 ≤ BW ∧ BW ≤ W - X ∧ 1 ≤ BH ∧ BH ≤ H - Y
 · have e : inPageB X Y BW BH W H = true := by unfold inPageB; exact decide_eq_true hall
   rw [e]
   clear e
   obtain ⟨c1, c2, c3, c4, c5, c6, c7, c8⟩ := hall
   go_enter Tryz.func85, Tryz.ntmps85
   go_wp2_with fail
   go_ret
   exact ⟨rfl, (Bl.refl _).alloc _⟩
 · have e : inPageB X Y BW BH W H = false := by unfold inPageB; exact decide_eq_false hall
   rw [e]
   clear e
   rcases (show BW < 1 ∨ (¬ BW < 1 ∧ BH < 1) ∨ (¬ BW < 1 ∧ ¬ BH < 1 ∧ X < 0) ∨ (¬ BW < 1 ∧ ¬ BH < 1 ∧ ¬ X < 0 ∧ Y < 0) ∨ (¬ BW < 1 ∧ ¬ BH < 1 ∧ ¬ X < 0 ∧ ¬ Y < 0 ∧ (W : Int) ≤ X) ∨ (¬ BW < 1 ∧ ¬ BH < 1 ∧ ¬ X < 0 ∧ ¬ Y < 0 ∧ ¬ (W : Int) ≤ X ∧ (H : Int) ≤ Y) ∨
    (¬ BW < 1 ∧ ¬ BH < 1 ∧ ¬ X < 0 ∧ ¬ Y < 0 ∧ ¬ (W : Int) ≤ X ∧ ¬ (H : Int) ≤ Y ∧ (W : Int) - X < BW) ∨ (¬ BW < 1 ∧ ¬ BH < 1 ∧ ¬ X < 0 ∧ ¬ Y < 0 ∧ ¬ (W : Int) ≤ X ∧ ¬ (H : Int) ≤ Y ∧ ¬ (W : Int) - X < BW ∧ (H : Int) - Y < BH) by omega) with
    c1 | ⟨c1, c2⟩ | ⟨c1, c2, c3⟩ | ⟨c1, c2, c3, c4⟩ | ⟨c1, c2, c3, c4, c5⟩ | ⟨c1, c2, c3, c4, c5, c6⟩ | ⟨c1, c2, c3, c4, c5, c6, c7⟩ | ⟨c1, c2, c3, c4, c5, c6, c7, c8⟩
   all_goals
    clear hall
    go_enter Tryz.func85, Tryz.ntmps85
    go_wp2_with fail
    go_ret
    exact ⟨rfl, (Bl.refl _).alloc _⟩

def cutErr (W H : Int) (n : Nat) (X Y BW BH : Int) : Int := firstNZ [pageErr W H n, whenI (!inPageB X Y BW BH W H) 13]
theorem cutErr_zero {W H : Int} {n : Nat} {X Y BW BH : Int} (h : cutErr W H n X Y BW BH = 0) : pageErr W H n = 0 ∧ 0 ≤ X ∧ X < W ∧ 0 ≤ Y ∧ Y < H ∧ 1 ≤ BW ∧ BW ≤ W - X ∧ 1 ≤ BH ∧ BH ≤ H - Y := by
 unfold cutErr firstNZ at h
 split at h
 · rename_i h0
   refine ⟨h0, ?_⟩
   cases hi : inPageB X Y BW BH W H
   · rw [hi] at h; simp [firstNZ, whenI] at h
   · exact of_decide_eq_true hi
 · contradiction
set_option maxRecDepth 100000 in
set_option maxHeartbeats 1000000 in
theorem checkBoth_any (W H : Int) (A : Option Addr) (an ac : Nat) (X Y BW BH : Int) (w : World) :
 Calls Tryz.prog 34 #[.agg #[.int .i64 W, .int .i64 H, .slice A an ac], .agg #[.int .i64 X, .int .i64 Y, .int .i64 BW, .int .i64 BH]] w fun e w' => e = .returned (.int .i64 (cutErr W H an X Y BW BH)) ∧ Bl w w' := by
 let w2 := ((w).alloc (.cells #[.int .i64 W, .int .i64 H, .slice A an ac] 24)).alloc (.cells #[.int .i64 X, .int .i64 Y, .int .i64 BW, .int .i64 BH] 26)
 have w2b : Bl w w2 := ((Bl.refl w).alloc _).alloc _
 have w21 : Blk w2 (w.heap.size) 24 #[.int .i64 W, .int .i64 H, .slice A an ac] := by
  have h0 := Blk.new (w) 24 #[.int .i64 W, .int .i64 H, .slice A an ac]
  exact (h0.alloc _)
 have w22 : Blk w2 (w.heap.size + 1) 26 #[.int .i64 X, .int .i64 Y, .int .i64 BW, .int .i64 BH] := by
  have h0 := Blk.new ((w).alloc (.cells #[.int .i64 W, .int .i64 H, .slice A an ac] 24)) 26 #[.int .i64 X, .int .i64 Y, .int .i64 BW, .int .i64 BH]
  simp only [World.size_alloc] at h0
  exact h0
 have k1 := w21.all3
 by_cases hp : pageErr W H an = 0
 · have e : cutErr W H an X Y BW BH = whenI (!inPageB X Y BW BH W H) 13 := by
    unfold cutErr
    simp only [firstNZ, if_pos hp]
    split <;> simp_all
   rw [e]
   clear e
   have hz := sizeErr_zero (pageErr_zero hp).1
   obtain ⟨W, H, rfl, rfl, rfl, u1, u2, u3⟩ := page_nat hp
   have hW : 1 ≤ W ∧ W ≤ 4000 := by omega
   have hH : 1 ≤ H ∧ H ≤ 4000 := by omega
   clear hz
   go_enter Tryz.func34, Tryz.ntmps34
   go_wp2_with fail
   refine (checkBits_any _ _ _ _ _ _).mono ?_
   rintro e w3 ⟨rfl, hb3⟩
   have k3 := (w21.bl hb3).all3
   have k4 := (w22.bl hb3).all4
   clear k1
   go_wp2_with fail
   refine (inPage_any X Y BW BH W H _ hW hH).mono ?_
   rintro e w4 ⟨rfl, hb4⟩
   go_wp2_with fail
   go_ret
   exact ⟨rfl, (w2b.trans hb3).trans hb4⟩
 · have e : cutErr W H an X Y BW BH = pageErr W H an := by unfold cutErr; simp only [firstNZ, if_neg hp]
   have hq : (pageErr W H an != 0) = true := by simp [hp]
   rw [e]
   clear e hp
   go_enter Tryz.func34, Tryz.ntmps34
   go_wp2_with fail
   refine (checkBits_any _ _ _ _ _ _).mono ?_
   rintro e w3 ⟨rfl, hb3⟩
   go_wp2_with fail
   go_ret
   exact ⟨rfl, w2b.trans hb3⟩

/-! ### Cut -/
def cutF (bs : List Bool) (W X Y x y : Nat) : Bool := pix bs W (X + x) (Y + y)
set_option maxRecDepth 100000 in
set_option maxHeartbeats 1000000 in
theorem cut1_any (p q W H X Y BW BH : Nat) (A : Option Addr) (ac : Nat) (bs : List Bool) (x y : Nat) (w : World) (hp : Blk w p 24 #[.int .i64 W, .int .i64 H, .slice A (W * H) ac]) (hq : Blk w q 26 #[.int .i64 X, .int .i64 Y, .int .i64 BW, .int .i64 BH])
 (hA : Reads w 1 A (W * H) (bs.map .bool)) (hW : W ≤ 4000) (hH : H ≤ 4000) (hx : x < BW) (hy : y < BH) (hX : X + BW ≤ W) (hY : Y + BH ≤ H) :
 Calls Tryz.prog 269 #[.int .i64 x, .int .i64 y, .pointer (some ⟨p, 0, none⟩), .pointer (some ⟨q, 0, none⟩)] w fun e w' => e = .returned (.bool (cutF bs W X Y x y)) ∧ Bl w w' := by
 have kp := hp.all3
 have kq := hq.all4
 have lx : X + x < W := by omega
 have ly : Y + y < H := by omega
 obtain ⟨ad, rfl, hc⟩ := hA.place lx ly
 have hk := place_lt lx ly
 obtain ⟨k, hkk⟩ : ∃ k, k = (Y + y) * W + (X + x) := ⟨_, rfl⟩
 rw [← hkk] at hc hk
 have f0 := Int.natCast_mul (Y + y) W
 have f1 : ((Y : Int) + (y : Int)) * (W : Int) + (X : Int) + (x : Int) = (k : Int) := by rw [hkk]; push_cast; omega
 have f2 : (k : Int) < (W : Int) * (H : Int) := by have := Int.natCast_mul W H; omega
 have f3 : (0 : Int) ≤ ((Y : Int) + (y : Int)) * (W : Int) ∧ ((Y : Int) + (y : Int)) * (W : Int) ≤ 16000000 := by
  have := Nat.mul_le_mul (show Y + y ≤ 4000 by omega) hW
  push_cast at f0
  omega
 unfold cutF
 obtain ⟨v, hv⟩ : ∃ v, v = pix bs W (X + x) (Y + y) := ⟨_, rfl⟩
 rw [← hv] at hc ⊢
 have Hkk := Lib.hid hkk
 clear hv hkk hA f0
 go_enter Tryz.func269, Tryz.ntmps269
 go_wp2_with fail
 go_ret
 exact ⟨rfl, by first | exact Bl.refl _ | exact (Bl.refl _).drew⟩
set_option maxRecDepth 100000 in
set_option maxHeartbeats 2000000 in
theorem cut_any (W H : Int) (A : Option Addr) (an ac : Nat) (bs : List Bool) (X Y BW BH : Int) (w : World) (hA : Reads w 1 A an (bs.map .bool)) :
 Calls Tryz.prog 174 #[.agg #[.int .i64 W, .int .i64 H, .slice A an ac], .agg #[.int .i64 X, .int .i64 Y, .int .i64 BW, .int .i64 BH]] w fun e w' => ∃ a b R m d, e = .returned (.tuple #[.agg #[.int .i64 a, .int .i64 b, .slice R m d], .int .i64 (cutErr W H an X Y BW BH)]) ∧
  Res w.heap.size w' (cutErr W H an X Y BW BH) BW.toNat BH.toNat ((grid BW.toNat BH.toNat (cutF bs W.toNat X.toNat Y.toNat)).map .bool) a b R m d ∧ Bl w w' := by
 by_cases he : cutErr W H an X Y BW BH = 0
 · obtain ⟨hp, c1, c2, c3, c4, c5, c6, c7, c8⟩ := cutErr_zero he
   obtain ⟨W, H, rfl, rfl, rfl, u1, u2, u3⟩ := page_nat hp
   obtain ⟨X, rfl⟩ := Int.eq_ofNat_of_zero_le c1
   obtain ⟨Y, rfl⟩ := Int.eq_ofNat_of_zero_le c3
   obtain ⟨BW, rfl⟩ := Int.eq_ofNat_of_zero_le (show 0 ≤ BW by omega)
   obtain ⟨BH, rfl⟩ := Int.eq_ofNat_of_zero_le (show 0 ≤ BH by omega)
   have hX : X + BW ≤ W := by omega
   have hY : Y + BH ≤ H := by omega
   have hsz : BW * BH ≤ 1048576 := Nat.le_trans (Nat.mul_le_mul (show BW ≤ W by omega) (show BH ≤ H by omega)) u3
   simp only [Int.toNat_natCast]
   clear c1 c2 c3 c4 c5 c6 c7 c8 hp
   let w2 := (((w).alloc (.cells #[.int .i64 W, .int .i64 H, .slice A (W * H) ac] 24)).alloc (.cells #[.int .i64 X, .int .i64 Y, .int .i64 BW, .int .i64 BH] 26)).alloc (.cells #[.int .i64 0, .int .i64 0, .slice none 0 0] 24)
   have w2b : Bl w w2 := (((Bl.refl w).alloc _).alloc _).alloc _
   have w21 : Blk w2 (w.heap.size) 24 #[.int .i64 W, .int .i64 H, .slice A (W * H) ac] := by
    have h0 := Blk.new (w) 24 #[.int .i64 W, .int .i64 H, .slice A (W * H) ac]
    exact ((h0.alloc _).alloc _)
   have w22 : Blk w2 (w.heap.size + 1) 26 #[.int .i64 X, .int .i64 Y, .int .i64 BW, .int .i64 BH] := by
    have h0 := Blk.new ((w).alloc (.cells #[.int .i64 W, .int .i64 H, .slice A (W * H) ac] 24)) 26 #[.int .i64 X, .int .i64 Y, .int .i64 BW, .int .i64 BH]
    simp only [World.size_alloc] at h0
    exact (h0.alloc _)
   have w23 : Blk w2 (w.heap.size + 1 + 1) 24 #[.int .i64 0, .int .i64 0, .slice none 0 0] := by
    have h0 := Blk.new (((w).alloc (.cells #[.int .i64 W, .int .i64 H, .slice A (W * H) ac] 24)).alloc (.cells #[.int .i64 X, .int .i64 Y, .int .i64 BW, .int .i64 BH] 26)) 24 #[.int .i64 0, .int .i64 0, .slice none 0 0]
    simp only [World.size_alloc] at h0
    exact h0
   have k1 := w21.all3
   have k2 := w22.all4
   have hA2 := hA.bl w2b
   have HA := Lib.hid hA2
   clear hA hA2
   go_enter Tryz.func174, Tryz.ntmps174
   go_wp2_with fail
   refine (checkBoth_any _ _ _ _ _ _ _ _ _ _).mono ?_
   rintro e w3 ⟨rfl, hb3⟩
   have k1 := (w21.bl hb3).all3
   have k2 := (w22.bl hb3).all4
   have hle := w2b.trans hb3
   have hP : Paints Tryz.prog 269 #[.pointer (some ⟨w.heap.size, 0, none⟩), .pointer (some ⟨w.heap.size + 1, 0, none⟩)] Value.bool w3 BW BH (cutF bs W X Y) :=
    ⟨enters Tryz.func269 (by kernel_rfl) rfl, fun wx x y hb hx hy => cut1_any _ _ W H X Y BW BH A ac bs x y wx ((w21.bl hb3).bl hb) ((w22.bl hb3).bl hb) ((HA.out.bl hb3).bl hb) u1 u2 hx hy hX hY⟩
   have HP := Lib.hid hP
   clear hP
   go_wp2_with fail
   refine (made_any BW BH _ _ _ _ (by omega) (by omega) hsz HP.out).mono ?_
   rintro e w6 ⟨r, rfl, hpg, hb6⟩
   have k3 := (w23.bl (hb3.trans hb6)).all3
   have hle6 := hle.trans hb6
   have hsz3 := (w23.bl hb3).lt
   obtain ⟨R, rc, rfl, hR, hRn⟩ := hpg
   have hRn' : ∀ ad, R = some ad → w.heap.size + 3 ≤ ad.block := fun ad h => by have := hRn ad h; omega
   have HR := Lib.hid hR; have HRn := Lib.hid hRn'
   clear hR hRn hRn'
   go_wp2_with fail
   refine bodyPost_ret (v := .tuple #[.agg #[.int .i64 BW, .int .i64 BH, .slice R (BW * BH) rc], .int .i64 0]) (by simp [results, Tryz.results174, go_sem, k3]) rfl ⟨_, _, R, _, rc, by rw [he], Res.page he ?_ (fun ad h => by have := HRn.out ad h; omega), ?_⟩
   · exact ((HR.out.store HRn.out (by simp) _).store HRn.out (by simp) _).store HRn.out (by simp) _
   · exact (((hle6.setCell (by simp; omega) _).setCell (by simp; omega) _).setCell (by simp; omega) _)
 · have hq : (cutErr W H an X Y BW BH != 0) = true := by simp [he]
   have He := Lib.hid he
   clear he hA
   let w2 := (((w).alloc (.cells #[.int .i64 W, .int .i64 H, .slice A an ac] 24)).alloc (.cells #[.int .i64 X, .int .i64 Y, .int .i64 BW, .int .i64 BH] 26)).alloc (.cells #[.int .i64 0, .int .i64 0, .slice none 0 0] 24)
   have w2b : Bl w w2 := (((Bl.refl w).alloc _).alloc _).alloc _
   have w21 : Blk w2 (w.heap.size) 24 #[.int .i64 W, .int .i64 H, .slice A an ac] := by
    have h0 := Blk.new (w) 24 #[.int .i64 W, .int .i64 H, .slice A an ac]
    exact ((h0.alloc _).alloc _)
   have w22 : Blk w2 (w.heap.size + 1) 26 #[.int .i64 X, .int .i64 Y, .int .i64 BW, .int .i64 BH] := by
    have h0 := Blk.new ((w).alloc (.cells #[.int .i64 W, .int .i64 H, .slice A an ac] 24)) 26 #[.int .i64 X, .int .i64 Y, .int .i64 BW, .int .i64 BH]
    simp only [World.size_alloc] at h0
    exact (h0.alloc _)
   have w23 : Blk w2 (w.heap.size + 1 + 1) 24 #[.int .i64 0, .int .i64 0, .slice none 0 0] := by
    have h0 := Blk.new (((w).alloc (.cells #[.int .i64 W, .int .i64 H, .slice A an ac] 24)).alloc (.cells #[.int .i64 X, .int .i64 Y, .int .i64 BW, .int .i64 BH] 26)) 24 #[.int .i64 0, .int .i64 0, .slice none 0 0]
    simp only [World.size_alloc] at h0
    exact h0
   have k1 := w21.all3
   have k2 := w22.all4
   go_enter Tryz.func174, Tryz.ntmps174
   go_wp2_with fail
   refine (checkBoth_any _ _ _ _ _ _ _ _ _ _).mono ?_
   rintro e w3 ⟨rfl, hb3⟩
   have k3 := (w23.bl hb3).all3
   go_wp2_with fail
   refine bodyPost_ret (v := .tuple #[.agg #[.int .i64 0, .int .i64 0, .slice none 0 0], .int .i64 (cutErr W H an X Y BW BH)]) (by simp [results, Tryz.results174, go_sem, k3]) rfl ⟨_, _, _, _, _, rfl, Res.zero _ _ _ _ _ He.out, ?_⟩
   exact ((((w2b.trans hb3).setCell (by simp; omega) _).setCell (by simp; omega) _).setCell (by simp; omega) _)

/-! ### Ink -/
end Go.Proofs.YthobmednnocklaaGreatDoor


/-! Pasting one page on another one: in the program and in the reference. -/
namespace Go.Proofs.YthobmednnocklaaGreatDoor
open Go.RowKit

/-! ### plain -/
def isApart (bW bH cW cH : Nat) (x y : Int) : Bool := decide (x ≤ -(cW : Int)) || decide ((bW : Int) ≤ x) || decide (y ≤ -(cH : Int)) || decide ((bH : Int) ≤ y)
def pasteF (bs cs : List Bool) (bW bH cW cH : Nat) (x y : Int) (u v : Nat) : Bool := pix bs bW u v || (!isApart bW bH cW cH x y && atI cs cW cH ((u : Int) - x) ((v : Int) - y))
theorem isApart_false {bW bH cW cH : Nat} {x y : Int} (h : isApart bW bH cW cH x y = false) : -(cW : Int) < x ∧ x < bW ∧ -(cH : Int) < y ∧ y < bH := by
 simp [isApart] at h; omega
theorem pasteF_pix {bs cs : List Bool} {bW bH cW cH : Nat} {x y : Int} {u v : Nat} (h : pix bs bW u v = true) : pasteF bs cs bW bH cW cH x y u v = true := by simp [pasteF, h]
theorem pasteF_apart {bs cs : List Bool} {bW bH cW cH : Nat} {x y : Int} {u v : Nat} (h : pix bs bW u v = false) (h2 : isApart bW bH cW cH x y = true) : pasteF bs cs bW bH cW cH x y u v = false := by simp [pasteF, h, h2]
theorem pasteF_at {bs cs : List Bool} {bW bH cW cH : Nat} {x y : Int} {u v : Nat} (h : pix bs bW u v = false) (h2 : isApart bW bH cW cH x y = false) : pasteF bs cs bW bH cW cH x y u v = atI cs cW cH ((u : Int) - x) ((v : Int) - y) := by simp [pasteF, h, h2]

/-! ### the program's closure -/
set_option maxRecDepth 100000 in
set_option maxHeartbeats 2000000 in
theorem paste1_any (pb pa px py pc : Nat) (bW bH cW cH : Nat) (A C : Option Addr) (bc cc : Nat) (bs cs : List Bool) (x y : Int) (u v : Nat) (w : World)
 (h1 : Blk w pb 24 #[.int .i64 bW, .int .i64 bH, .slice A (bW * bH) bc]) (h2 : Blk w pa 4 #[.bool (isApart bW bH cW cH x y)]) (h3 : Blk w px 3 #[.int .i64 x]) (h4 : Blk w py 3 #[.int .i64 y])
 (h5 : Blk w pc 24 #[.int .i64 cW, .int .i64 cH, .slice C (cW * cH) cc])
 (hA : Reads w 1 A (bW * bH) (bs.map .bool)) (hC : Reads w 1 C (cW * cH) (cs.map .bool)) (b1 : bW ≤ 4000) (b2 : bH ≤ 4000) (b3 : cW ≤ 4000) (b4 : cH ≤ 4000) (hu : u < bW) (hv : v < bH) :
 Calls Tryz.prog 134 #[.int .i64 u, .int .i64 v, .pointer (some ⟨pb, 0, none⟩), .pointer (some ⟨pa, 0, none⟩), .pointer (some ⟨px, 0, none⟩), .pointer (some ⟨py, 0, none⟩), .pointer (some ⟨pc, 0, none⟩)] w
  fun e w' => e = .returned (.bool (pasteF bs cs bW bH cW cH x y u v)) ∧ Bl w w' := by
 have k1 := h1.all3
 have k2 := h2.all1
 have k3 := h3.all1
 have k4 := h4.all1
 have k5 := h5.all3
 obtain ⟨ad, rfl, hc⟩ := hA.place hu hv
 have hk := place_lt hu hv
 obtain ⟨k, hkk⟩ : ∃ k, k = v * bW + u := ⟨_, rfl⟩
 rw [← hkk] at hc hk
 have ek : (v : Int) * (bW : Int) + (u : Int) = (k : Int) := by rw [hkk]; simp
 have hkl : (k : Int) < (bW : Int) * (bH : Int) := by have := Int.natCast_mul bW bH; omega
 have hq : (0 : Int) ≤ (v : Int) * (bW : Int) ∧ (v : Int) * (bW : Int) ≤ 16000000 := by
  have h5 := Int.natCast_mul v bW
  have h6 := Nat.mul_le_mul (show v ≤ 4000 by omega) b1
  omega
 have Hkk := Lib.hid hkk
 clear hkk h1 h2 h3 h4 h5 hA
 cases hp : pix bs bW u v
 case true =>
  have hf := pasteF_pix (cs := cs) (bH := bH) (cW := cW) (cH := cH) (x := x) (y := y) hp
  rw [hp] at hc
  have Hf := Lib.hid hf; have Hp := Lib.hid hp
  clear hf hp hC
  go_enter Tryz.func134, Tryz.ntmps134
  go_wp2
  go_ret
  exact ⟨ret_bool Hf.out.symm, Bl.refl _⟩
 case false =>
  rw [hp] at hc
  cases ha : isApart bW bH cW cH x y
  case true =>
   have hf := pasteF_apart (cs := cs) hp ha
   rw [ha] at k2
   have Hf := Lib.hid hf; have Hp := Lib.hid hp; have Ha := Lib.hid ha
   clear hf hp ha hC
   go_enter Tryz.func134, Tryz.ntmps134
   go_wp2
   go_ret
   exact ⟨ret_bool Hf.out.symm, Bl.refl _⟩
  case false =>
   have hf := pasteF_at (cs := cs) hp ha
   obtain ⟨r1, r2, r3, r4⟩ := isApart_false ha
   rw [ha] at k2
   have Hf := Lib.hid hf; have Hp := Lib.hid hp; have Ha := Lib.hid ha
   clear hf hp ha
   by_cases c1 : 0 ≤ (u : Int) - x ∧ (u : Int) - x < cW ∧ 0 ≤ (v : Int) - y ∧ (v : Int) - y < cH
   · obtain ⟨c1, c2, c3, c4⟩ := c1
     obtain ⟨X, hX⟩ := Int.eq_ofNat_of_zero_le c1
     obtain ⟨Y, hY⟩ := Int.eq_ofNat_of_zero_le c3
     have hXl : X < cW := by omega
     have hYl : Y < cH := by omega
     have hat := atI_in cs cW cH X Y hXl hYl
     rw [← hX, ← hY] at hat
     obtain ⟨cd, rfl, hd⟩ := hC.place hXl hYl
     have hj := place_lt hXl hYl
     obtain ⟨j, hjj⟩ : ∃ j, j = Y * cW + X := ⟨_, rfl⟩
     rw [← hjj] at hd hj
     have ej : ((v : Int) - y) * (cW : Int) + ((u : Int) - x) = (j : Int) := by rw [hjj, hX, hY]; simp
     have hjl : (j : Int) < (cW : Int) * (cH : Int) := by have := Int.natCast_mul cW cH; omega
     have hqj : (0 : Int) ≤ ((v : Int) - y) * (cW : Int) ∧ ((v : Int) - y) * (cW : Int) ≤ 16000000 := by
      have h5 := Int.natCast_mul Y cW
      have h6 := Nat.mul_le_mul (show Y ≤ 4000 by omega) b3
      rw [hY]; omega
     have Hat := Lib.hid hat; have HX := Lib.hid hX; have HY := Lib.hid hY; have Hjj := Lib.hid hjj
     clear hat hX hY hjj hC
     go_enter Tryz.func134, Tryz.ntmps134
     go_wp2_with fail
     refine wp_region_flow [(true, 0), (true, 1), (true, 2), (true, 3), (true, 4), (true, 5), (true, 6), (true, 7)] (fun _ => false) (by kernel_rfl) (by kernel_rfl) (by kernel_rfl) (by kernel_rfl) ?_
     iterate 1
      apply Flow.mv _ rfl
      · intro K' hK'
        simp only [sqA, Act.eval, arr_getD, List.getD_cons_zero]
        exact hK'
     iterate 2
      apply Flow.calm2 _ _ rfl rfl
      · intro w' hb' K' hK'
        obtain ⟨hc', hf'⟩ := hb'.rule
        go_simp
        try go_ints
        exact hK'
      · intro K' hK'
        simp only [sqA]
        exact hK'
     iterate 1
      apply Flow.mv _ rfl
      · intro K' hK'
        simp only [sqA, Act.eval, arr_getD, List.getD_cons_zero, List.getD_cons_succ]
        exact hK'
     iterate 2
      apply Flow.calm2 _ _ rfl rfl
      · intro w' hb' K' hK'
        obtain ⟨hc', hf'⟩ := hb'.rule
        go_simp
        try go_ints
        exact hK'
      · intro K' hK'
        simp only [sqA]
        exact hK'
     iterate 2
      apply Flow.asg _ rfl
      · intro K' hK'
        simp only [sqA, Act.eval, arr_getD, List.getD_cons_zero, List.getD_cons_succ]
        exact hK'
     refine Flow.done ?_
     go_wp2_with fail
     go_ret
     exact ⟨ret_bool (by rw [Hf.out, Hat.out]), (Bl.refl _).drew⟩
   · have hat := atI_out cs cW cH ((u : Int) - x) ((v : Int) - y) c1
     have Hat := Lib.hid hat
     clear hat hC
     have hcase : (u : Int) - x < 0 ∨ (0 ≤ (u : Int) - x ∧ (cW : Int) ≤ (u : Int) - x) ∨ (0 ≤ (u : Int) - x ∧ (u : Int) - x < cW ∧ (v : Int) - y < 0) ∨ (0 ≤ (u : Int) - x ∧ (u : Int) - x < cW ∧ 0 ≤ (v : Int) - y ∧ (cH : Int) ≤ (v : Int) - y) := by omega
     clear c1
     rcases hcase with d | ⟨d, d'⟩ | ⟨d, d', d''⟩ | ⟨d, d', d'', d'''⟩
     all_goals
      go_enter Tryz.func134, Tryz.ntmps134
      go_wp2_with fail
      refine wp_region_flow [(true, 0), (true, 1), (true, 2), (true, 3), (true, 4), (true, 5), (true, 6), (true, 7)] (fun _ => false) (by kernel_rfl) (by kernel_rfl) (by kernel_rfl) (by kernel_rfl) ?_
      iterate 1
       apply Flow.mv _ rfl
       · intro K' hK'
         simp only [sqA, Act.eval, arr_getD, List.getD_cons_zero]
         exact hK'
      iterate 2
       apply Flow.calm2 _ _ rfl rfl
       · intro w' hb' K' hK'
         obtain ⟨hc', hf'⟩ := hb'.rule
         go_simp
         try go_ints
         exact hK'
       · intro K' hK'
         simp only [sqA]
         exact hK'
      iterate 1
       apply Flow.mv _ rfl
       · intro K' hK'
         simp only [sqA, Act.eval, arr_getD, List.getD_cons_zero, List.getD_cons_succ]
         exact hK'
      iterate 2
       apply Flow.calm2 _ _ rfl rfl
       · intro w' hb' K' hK'
         obtain ⟨hc', hf'⟩ := hb'.rule
         go_simp
         try go_ints
         exact hK'
       · intro K' hK'
         simp only [sqA]
         exact hK'
      iterate 2
       apply Flow.asg _ rfl
       · intro K' hK'
         simp only [sqA, Act.eval, arr_getD, List.getD_cons_zero, List.getD_cons_succ]
         exact hK'
      refine Flow.done ?_
      go_wp2_with fail
      go_ret
      exact ⟨ret_bool (by rw [Hf.out, Hat.out]), (Bl.refl _).drew⟩

end Go.Proofs.YthobmednnocklaaGreatDoor


/-! The plain law of distances of shapes: pixels that differ are all ink but twice what meets. -/
namespace Go.Proofs.YthobmednnocklaaGreatDoor
open Go.RowKit

/-! ### sums over windows -/
def winN (f : Int → Nat) (lo : Int) (n : Nat) : Nat := sumN (fun i => f (lo + (i : Int))) n
theorem winN_congr {f g : Int → Nat} {lo : Int} {n : Nat} (h : ∀ i : Nat, i < n → f (lo + (i : Int)) = g (lo + (i : Int))) : winN f lo n = winN g lo n := sumN_congr h
theorem winN_succ (f : Int → Nat) (lo : Int) (n : Nat) : winN f lo (n + 1) = winN f lo n + f (lo + (n : Int)) := rfl
theorem winN_split (f : Int → Nat) (lo : Int) (a b : Nat) : winN f lo (a + b) = winN f lo a + winN f (lo + (a : Int)) b := by
 unfold winN
 rw [sumN_split]
 congr 1
 refine sumN_congr fun i _ => ?_
 congr 1
 omega
theorem winN_none {f : Int → Nat} {lo : Int} {n : Nat} (h : ∀ i : Nat, i < n → f (lo + (i : Int)) = 0) : winN f lo n = 0 := (sumN_congr h).trans (sumN_zero n)
theorem winN_sub {f : Int → Nat} {lo p : Int} {n m : Nat} (h1 : lo ≤ p) (h2 : p + (m : Int) ≤ lo + (n : Int)) (h : ∀ z, z < p ∨ p + (m : Int) ≤ z → f z = 0) : winN f lo n = winN f p m := by
 obtain ⟨a, rfl⟩ : ∃ a : Nat, p = lo + (a : Int) := ⟨(p - lo).toNat, by omega⟩
 obtain ⟨b, rfl⟩ : ∃ b : Nat, n = a + (m + b) := ⟨n - a - m, by omega⟩
 rw [winN_split, winN_split, winN_none (n := a) (fun i hi => h _ (by omega)), winN_none (n := b) (fun i hi => h _ (by omega))]
 omega
theorem winN_shift (f : Int → Nat) (d lo : Int) (n : Nat) : winN (fun z => f (z - d)) lo n = winN f (lo - d) n := by
 refine sumN_congr fun i _ => ?_
 show f (lo + (i : Int) - d) = f (lo - d + (i : Int))
 congr 1
 omega
theorem winN_add (f g : Int → Nat) (lo : Int) (n : Nat) : winN (fun z => f z + g z) lo n = winN f lo n + winN g lo n := sumN_add _ _ n
def win2 (F : Int → Int → Nat) (x0 : Int) (nx : Nat) (y0 : Int) (ny : Nat) : Nat := winN (fun y => winN (fun x => F x y) x0 nx) y0 ny
theorem win2_add (F G : Int → Int → Nat) (x0 : Int) (nx : Nat) (y0 : Int) (ny : Nat) : win2 (fun x y => F x y + G x y) x0 nx y0 ny = win2 F x0 nx y0 ny + win2 G x0 nx y0 ny := by
 unfold win2
 rw [← winN_add]
 exact winN_congr fun i _ => winN_add _ _ _ _
theorem win2_sub {F : Int → Int → Nat} {x0 y0 px py : Int} {nx ny mx my : Nat} (h1 : x0 ≤ px) (h2 : px + (mx : Int) ≤ x0 + (nx : Int)) (h3 : y0 ≤ py) (h4 : py + (my : Int) ≤ y0 + (ny : Int))
 (h : ∀ x y, (x < px ∨ px + (mx : Int) ≤ x) ∨ (y < py ∨ py + (my : Int) ≤ y) → F x y = 0) : win2 F x0 nx y0 ny = win2 F px mx py my := by
 unfold win2
 refine (winN_sub h3 h4 (fun y hy => winN_none fun i _ => h (x0 + (i : Int)) y (.inr hy))).trans ?_
 exact winN_congr fun i _ => winN_sub h1 h2 fun x hx => h _ _ (.inl hx)
theorem win2_shift (F : Int → Int → Nat) (dx dy x0 y0 : Int) (nx ny : Nat) : win2 (fun x y => F (x - dx) (y - dy)) x0 nx y0 ny = win2 F (x0 - dx) nx (y0 - dy) ny := by
 unfold win2
 have e : (fun y => winN (fun x => F (x - dx) (y - dy)) x0 nx) = fun y => (fun z => winN (fun x => F x z) (x0 - dx) nx) (y - dy) := by
  funext y
  exact winN_shift (fun x => F x (y - dy)) dx x0 nx
 rw [e, winN_shift (fun z => winN (fun x => F x z) (x0 - dx) nx)]
theorem win2_congr {F G : Int → Int → Nat} {x0 : Int} {nx : Nat} {y0 : Int} {ny : Nat} (h : ∀ x y, F x y = G x y) : win2 F x0 nx y0 ny = win2 G x0 nx y0 ny := by
 unfold win2
 exact winN_congr fun i _ => winN_congr fun j _ => h _ _
theorem winN_le {f : Int → Nat} {c : Nat} (h : ∀ z, f z ≤ c) (lo : Int) (n : Nat) : winN f lo n ≤ n * c := sumN_le (fun _ => h _) n
theorem win2_le {F : Int → Int → Nat} (h : ∀ x y, F x y ≤ 1) (x0 : Int) (nx : Nat) (y0 : Int) (ny : Nat) : win2 F x0 nx y0 ny ≤ ny * nx := by
 unfold win2
 refine winN_le (c := nx) (fun y => ?_) y0 ny
 have := winN_le (c := 1) (fun x => h x y) x0 nx
 omega

/-! ### two shapes -/
/-- What lies outside has no ink. -/
def Held (A : Int → Int → Bool) (W H : Nat) : Prop := ∀ x y, A x y = true → 0 ≤ x ∧ x < (W : Int) ∧ 0 ≤ y ∧ y < (H : Int)
def inkA (A : Int → Int → Bool) (W H : Nat) : Nat := win2 (fun x y => b1 (A x y)) 0 W 0 H
def overN (lo hi : Int) : Nat := (hi - lo).toNat
/-- What meets, the second shape being moved. -/
def bothN (A B : Int → Int → Bool) (W H W' H' : Nat) (dx dy : Int) : Nat :=
 win2 (fun x y => b1 (A x y && B (x - dx) (y - dy))) (max 0 dx) (overN (max 0 dx) (min (W : Int) ((W' : Int) + dx))) (max 0 dy) (overN (max 0 dy) (min (H : Int) ((H' : Int) + dy)))
/-- What differs. -/
def diffN (A B : Int → Int → Bool) (W H W' H' r : Nat) (dx dy : Int) : Nat :=
 win2 (fun x y => b1 (A x y != B (x - dx) (y - dy))) (-(r : Int)) (max W W' + 2 * r) (-(r : Int)) (max H H' + 2 * r)
theorem held0 {A : Int → Int → Bool} {W H : Nat} (h : Held A W H) {x y : Int} (hn : ¬ (0 ≤ x ∧ x < (W : Int) ∧ 0 ≤ y ∧ y < (H : Int))) : A x y = false := by
 cases he : A x y
 · rfl
 · exact absurd (h x y he) hn
theorem diff_both {A B : Int → Int → Bool} {W H W' H' r : Nat} {dx dy : Int} (hA : Held A W H) (hB : Held B W' H') (h1 : -(r : Int) ≤ dx) (h2 : dx ≤ (r : Int)) (h3 : -(r : Int) ≤ dy) (h4 : dy ≤ (r : Int)) :
 diffN A B W H W' H' r dx dy + 2 * bothN A B W H W' H' dx dy = inkA A W H + inkA B W' H' := by
 have e1 : bothN A B W H W' H' dx dy = win2 (fun x y => b1 (A x y && B (x - dx) (y - dy))) (-(r : Int)) (max W W' + 2 * r) (-(r : Int)) (max H H' + 2 * r) := by
  unfold bothN overN
  refine (win2_sub (by omega) (by omega) (by omega) (by omega) fun x y hxy => ?_).symm
  cases ha : A x y
  · rfl
  · cases hb : B (x - dx) (y - dy)
    · rfl
    · have a := hA x y ha
      have b := hB _ _ hb
      omega
 have e2 : inkA A W H = win2 (fun x y => b1 (A x y)) (-(r : Int)) (max W W' + 2 * r) (-(r : Int)) (max H H' + 2 * r) := by
  unfold inkA
  refine (win2_sub (by omega) (by omega) (by omega) (by omega) fun x y hxy => ?_).symm
  rw [held0 hA (by omega)]
  rfl
 have e3 : inkA B W' H' = win2 (fun x y => b1 (B (x - dx) (y - dy))) (-(r : Int)) (max W W' + 2 * r) (-(r : Int)) (max H H' + 2 * r) := by
  rw [win2_shift (fun x y => b1 (B x y))]
  unfold inkA
  refine (win2_sub (by omega) (by omega) (by omega) (by omega) fun x y hxy => ?_).symm
  rw [held0 hB (by omega)]
  rfl
 rw [e1, e2, e3, ← win2_add, Nat.two_mul]
 unfold diffN
 rw [← win2_add, ← win2_add]
 refine win2_congr fun x y => ?_
 cases A x y <;> cases B (x - dx) (y - dy) <;> rfl

/-! ### the best of all shifts -/
def mostN (f : Nat → Nat) : Nat → Nat
 | 0 => 0
 | n + 1 => max (mostN f n) (f n)
theorem mostN_le {f : Nat → Nat} {c n : Nat} (h : ∀ i, i < n → f i ≤ c) : mostN f n ≤ c := by
 induction n with
 | zero => exact Nat.zero_le _
 | succ n ih =>
  have a := ih fun i hi => h i (by omega)
  have b := h n (by omega)
  show max (mostN f n) (f n) ≤ c
  omega
/-- The shift of that number: rows of 2 r + 1. -/
def shiftX (r i : Nat) : Int := ((i % (2 * r + 1) : Nat) : Int) - (r : Int)
def shiftY (r i : Nat) : Int := ((i / (2 * r + 1) : Nat) : Int) - (r : Int)
def shifted (A B : Int → Int → Bool) (W H W' H' r i : Nat) : Nat := bothN A B W H W' H' (shiftX r i) (shiftY r i)
/-- How far two shapes are from each other. -/
def farN (A B : Int → Int → Bool) (W H W' H' r : Nat) : Int := (inkA A W H : Int) + (inkA B W' H' : Int) - 2 * (mostN (shifted A B W H W' H' r) ((2 * r + 1) * (2 * r + 1)) : Int)
end Go.Proofs.YthobmednnocklaaGreatDoor


/-! glyph.distance. -/
namespace Go.Proofs.YthobmednnocklaaGreatDoor
open Go.RowKit

/-- A page's pixels. -/
def inkF (bs : List Bool) (W H : Nat) (x y : Int) : Bool := atI bs W H x y
theorem inkF_held (bs : List Bool) (W H : Nat) : Held (inkF bs W H) W H := fun x y h => by
 unfold inkF atI at h
 rw [Bool.and_eq_true] at h
 exact of_decide_eq_true h.1
theorem inkF_at (bs : List Bool) (W H x y : Nat) (hx : x < W) (hy : y < H) : inkF bs W H x y = bs.getD (y * W + x) false := atI_in bs W H x y hx hy
/-- The pixels that have ink, one behind the other. -/
def tally (bs : List Bool) (n : Nat) : Nat := sumN (fun i => b1 (bs.getD i false)) n
theorem tally_succ (bs : List Bool) (n : Nat) : tally bs (n + 1) = tally bs n + b1 (bs.getD n false) := rfl
theorem tally_le (bs : List Bool) (n : Nat) : tally bs n ≤ n := by
 have := sumN_le (f := fun i => b1 (bs.getD i false)) (c := 1) (fun _ => b1_le _) n
 simpa [tally] using this
theorem tally_ink (bs : List Bool) (W H : Nat) : tally bs (W * H) = inkA (inkF bs W H) W H := by
 unfold tally inkA win2 winN
 rw [Nat.mul_comm, sumN_flat]
 refine sumN_congr fun y hy => sumN_congr fun x hx => ?_
 rw [show (0 : Int) + (x : Int) = (x : Int) by omega, show (0 : Int) + (y : Int) = (y : Int) by omega]
 show b1 (bs.getD (y * W + x) false) = b1 (inkF bs W H x y)
 rw [inkF_at bs W H x y hx hy]
theorem shifted_le (A B : Int → Int → Bool) (W H W' H' r i : Nat) : shifted A B W H W' H' r i ≤ H * W := by
 unfold shifted bothN
 refine Nat.le_trans (win2_le (fun x y => b1_le _) _ _ _ _) ?_
 refine Nat.mul_le_mul ?_ ?_ <;> (unfold overN; omega)
theorem most_shift_le (A B : Int → Int → Bool) (W H W' H' r n : Nat) : mostN (shifted A B W H W' H' r) n ≤ H * W := mostN_le fun i _ => shifted_le A B W H W' H' r i
theorem shift_at (r i j : Nat) (hj : j < 2 * r + 1) : shiftX r (i * (2 * r + 1) + j) = (j : Int) - (r : Int) ∧ shiftY r (i * (2 * r + 1) + j) = (i : Int) - (r : Int) := by
 unfold shiftX shiftY
 have e1 : (i * (2 * r + 1) + j) % (2 * r + 1) = j := by rw [Nat.mul_comm, Nat.mul_add_mod, Nat.mod_eq_of_lt hj]
 have e2 : (i * (2 * r + 1) + j) / (2 * r + 1) = i := by rw [Nat.mul_comm, Nat.mul_add_div (by omega), Nat.div_eq_of_lt hj, Nat.add_zero]
 rw [e1, e2]
 exact ⟨rfl, rfl⟩

end Go.Proofs.YthobmednnocklaaGreatDoor


/-! glyph.distance is farN. -/
namespace Go.Proofs.YthobmednnocklaaGreatDoor
open Go.RowKit

/-- The ink that is counted ahead of the i-th page. -/
def allT (cs bs : List Bool) (n m : Nat) : Nat → Nat
 | 0 => 0
 | 1 => tally cs n
 | _ => tally cs n + tally bs m
/-- A row of what meets. -/
def meetN (A B : Int → Int → Bool) (dx dy x0 : Int) (nx : Nat) (y : Int) : Nat := winN (fun x => b1 (A x y && B (x - dx) (y - dy))) x0 nx
theorem both_rows (A B : Int → Int → Bool) (W H W' H' : Nat) (dx dy : Int) : bothN A B W H W' H' dx dy = winN (meetN A B dx dy (max 0 dx) (overN (max 0 dx) (min (W : Int) ((W' : Int) + dx)))) (max 0 dy) (overN (max 0 dy) (min (H : Int) ((H' : Int) + dy))) := rfl
theorem pix_cell {w : World} {A : Option Addr} {n : Nat} {bs : List Bool} (h : Reads w 1 A n (bs.map .bool)) {k : Nat} (hk : k < n) : ∃ ad, A = some ad ∧ w.cell? (ad.add k) = some (.bool (bs.getD k false)) := by
 obtain ⟨ad, u, e, hu, hc⟩ := h.at_ hk
 refine ⟨ad, e, ?_⟩
 simp only [List.getElem?_map, Option.map_eq_some_iff] at hu
 obtain ⟨b, hb1, hb2⟩ := hu
 rw [hc, ← hb2, List.getD, hb1]
 rfl

set_option maxRecDepth 100000 in
set_option maxHeartbeats 8000000 in
theorem distance_any (W H W' H' r : Nat) (A B : Option Addr) (ac bc : Nat) (cs bs : List Bool) (w : World) (hA : Reads w 1 A (W * H) (cs.map .bool)) (hB : Reads w 1 B (W' * H') (bs.map .bool)) (hW : W ≤ 4000) (hH : H ≤ 4000) (hW' : W' ≤ 4000) (hH' : H' ≤ 4000) (hr : r ≤ 4) :
 Calls Tryz.prog 175 #[.agg #[.int .i64 W, .int .i64 H, .slice A (W * H) ac], .agg #[.int .i64 W', .int .i64 H', .slice B (W' * H') bc], .int .i64 r] w fun e w' => e = .returned (.int .i64 (farN (inkF cs W H) (inkF bs W' H') W H W' H' r)) ∧ Bl w w' := by
 let w2 := ((w).alloc (.cells #[.int .i64 W, .int .i64 H, .slice A (W * H) ac] 24)).alloc (.cells #[.int .i64 W', .int .i64 H', .slice B (W' * H') bc] 24)
 have w2b : Bl w w2 := ((Bl.refl w).alloc _).alloc _
 have w21 : Blk w2 (w.heap.size) 24 #[.int .i64 W, .int .i64 H, .slice A (W * H) ac] := by
  have h0 := Blk.new (w) 24 #[.int .i64 W, .int .i64 H, .slice A (W * H) ac]
  exact (h0.alloc _)
 have w22 : Blk w2 (w.heap.size + 1) 24 #[.int .i64 W', .int .i64 H', .slice B (W' * H') bc] := by
  have h0 := Blk.new ((w).alloc (.cells #[.int .i64 W, .int .i64 H, .slice A (W * H) ac] 24)) 24 #[.int .i64 W', .int .i64 H', .slice B (W' * H') bc]
  simp only [World.size_alloc] at h0
  exact h0
 have hA2 := hA.bl w2b
 have hB2 := hB.bl w2b
 have k1 := w21.all3
 have k2 := w22.all3
 have hn : W * H ≤ 16000000 := by have := Nat.mul_le_mul hW hH; omega
 have hm : W' * H' ≤ 16000000 := by have := Nat.mul_le_mul hW' hH'; omega
 have HA := Lib.hid hA2; have HB := Lib.hid hB2
 have t1 := tally_le cs (W * H)
 have t2 := tally_le bs (W' * H')
 have i0 : ∀ w : World, (Instr.index 342 (.agg #[.int .i64 W, .int .i64 H, .slice A (W * H) ac, .int .i64 W', .int .i64 H', .slice B (W' * H') bc]) (.int .i64 0)).run Tryz.prog w = .ok (.agg #[.int .i64 W, .int .i64 H, .slice A (W * H) ac]) w := fun _ => by kernel_rfl
 have i1 : ∀ w : World, (Instr.index 342 (.agg #[.int .i64 W, .int .i64 H, .slice A (W * H) ac, .int .i64 W', .int .i64 H', .slice B (W' * H') bc]) (.int .i64 1)).run Tryz.prog w = .ok (.agg #[.int .i64 W', .int .i64 H', .slice B (W' * H') bc]) w := fun _ => by kernel_rfl
 clear hA hB hA2 hB2
 go_enter Tryz.func175, Tryz.ntmps175
 go_wp2_with fail
 go_loopw [21, 7] (fun u v wr => ∃ i : Nat, i ≤ 2 ∧ u = .int .i64 i ∧ v = .int .i64 (allT cs bs (W * H) (W' * H') i : Nat) ∧ Bl w2 wr) (fun u _ _ => 2 - (RowKit.intOf u).toNat)
 case atStart => exact ⟨0, by omega, rfl, rfl, Bl.refl _⟩
 case round =>
  clear k1 k2
  obtain ⟨i, hi, rfl, rfl, hbr⟩ := hrel
  by_cases hlt : i < 2
  · have inner : ∀ (X : Option Addr) (q pre : Nat) (zs : List Bool), True := fun _ _ _ _ => trivial
    clear inner
    have hcase : i = 0 ∨ i = 1 := by omega
    rcases hcase with rfl | rfl
    · have e0 : allT cs bs (W * H) (W' * H') 0 = 0 := rfl
      rw [e0]
      go_wp2_with fail
      obtain ⟨w5, hw5⟩ : ∃ x, x = wr.alloc (.cells #[.int .i64 W, .int .i64 H, .slice A (W * H) ac] 24) := ⟨_, rfl⟩
      have hb5 : Bl wr w5 := by rw [hw5]; exact (Bl.refl _).alloc _
      rw [← hw5]
      clear hw5
      go_loopw [27, 7] (fun u v wx => ∃ k : Nat, k ≤ W * H ∧ u = .int .i64 k ∧ v = .int .i64 (tally cs k : Nat) ∧ Bl w5 wx) (fun u _ _ => W * H - (RowKit.intOf u).toNat)
      case atStart => exact ⟨0, Nat.zero_le _, rfl, rfl, Bl.refl _⟩
      case round =>
       rename World => wx
       obtain ⟨k, hk, rfl, rfl, hbx⟩ := hrel
       have hts := tally_succ cs k
       have htl := tally_le cs k
       obtain ⟨v, hv⟩ : ∃ v, v = tally cs k := ⟨_, rfl⟩
       rw [← hv] at hts htl ⊢
       have Hts := Lib.hid hts; have HVv := Lib.hid hv
       clear hts hv
       by_cases hkl : k < W * H
       · obtain ⟨ad, rfl, j1⟩ := pix_cell (HA.out.bl (hbr.trans (hb5.trans hbx))) hkl
         obtain ⟨bt, hbt⟩ : ∃ b, b = cs.getD k false := ⟨_, rfl⟩
         rw [← hbt] at j1
         have HBt := Lib.hid hbt
         clear hbt
         cases bt
         · have HN := Lib.hid (show tally cs (k + 1) = v by rw [Hts.out, ← HBt.out]; rfl)
           go_wp2_with fail
           exact ⟨⟨k + 1, hkl, by go_num, by rw [HN.out], hbx⟩, by simp [RowKit.intOf] <;> omega⟩
         · have HN := Lib.hid (show tally cs (k + 1) = v + 1 by rw [Hts.out, ← HBt.out]; rfl)
           go_wp2_with fail
           exact ⟨⟨k + 1, hkl, by go_num, by rw [HN.out]; go_num, hbx⟩, by simp [RowKit.intOf] <;> omega⟩
       · obtain rfl : k = W * H := by omega
         have HN := Lib.hid (show allT cs bs (W * H) (W' * H') 1 = v by rw [HVv.out]; rfl)
         go_wp2_with fail
         exact ⟨⟨1, by omega, by go_num, by rw [HN.out], hbr.trans (hb5.trans hbx)⟩, by simp [RowKit.intOf] <;> omega⟩
    · have e0 : allT cs bs (W * H) (W' * H') 1 = tally cs (W * H) := rfl
      rw [e0]
      obtain ⟨P0, hP0⟩ : ∃ x, x = tally cs (W * H) := ⟨_, rfl⟩
      rw [← hP0] at t1 ⊢
      have HP0 := Lib.hid hP0
      clear hP0 e0
      go_wp2_with fail
      obtain ⟨w5, hw5⟩ : ∃ x, x = wr.alloc (.cells #[.int .i64 W', .int .i64 H', .slice B (W' * H') bc] 24) := ⟨_, rfl⟩
      have hb5 : Bl wr w5 := by rw [hw5]; exact (Bl.refl _).alloc _
      rw [← hw5]
      clear hw5
      go_loopw [27, 7] (fun u v wx => ∃ k : Nat, k ≤ W' * H' ∧ u = .int .i64 k ∧ v = .int .i64 (P0 + tally bs k : Nat) ∧ Bl w5 wx) (fun u _ _ => W' * H' - (RowKit.intOf u).toNat)
      case atStart => exact ⟨0, Nat.zero_le _, rfl, rfl, Bl.refl _⟩
      case round =>
       rename World => wx
       obtain ⟨k, hk, rfl, rfl, hbx⟩ := hrel
       have hts := tally_succ bs k
       have htl := tally_le bs k
       obtain ⟨v, hv⟩ : ∃ v, v = tally bs k := ⟨_, rfl⟩
       rw [← hv] at hts htl ⊢
       have Hts := Lib.hid hts; have HVv := Lib.hid hv
       clear hts hv
       by_cases hkl : k < W' * H'
       · obtain ⟨ad, rfl, j1⟩ := pix_cell (HB.out.bl (hbr.trans (hb5.trans hbx))) hkl
         obtain ⟨bt, hbt⟩ : ∃ b, b = bs.getD k false := ⟨_, rfl⟩
         rw [← hbt] at j1
         have HBt := Lib.hid hbt
         clear hbt
         cases bt
         · have HN := Lib.hid (show tally bs (k + 1) = v by rw [Hts.out, ← HBt.out]; rfl)
           go_wp2_with fail
           exact ⟨⟨k + 1, hkl, by go_num, by rw [HN.out], hbx⟩, by simp [RowKit.intOf] <;> omega⟩
         · have HN := Lib.hid (show tally bs (k + 1) = v + 1 by rw [Hts.out, ← HBt.out]; rfl)
           go_wp2_with fail
           exact ⟨⟨k + 1, hkl, by go_num, by rw [HN.out]; go_num, hbx⟩, by simp [RowKit.intOf] <;> omega⟩
       · obtain rfl : k = W' * H' := by omega
         have HN := Lib.hid (show allT cs bs (W * H) (W' * H') 2 = P0 + v by rw [HVv.out, HP0.out]; rfl)
         go_wp2_with fail
         exact ⟨⟨2, by omega, by go_num, by rw [HN.out], hbr.trans (hb5.trans hbx)⟩, by simp [RowKit.intOf] <;> omega⟩
  · obtain rfl : i = 2 := by omega
    have e2 : allT cs bs (W * H) (W' * H') 2 = tally cs (W * H) + tally bs (W' * H') := rfl
    have hT1 := tally_ink cs W H
    have hT2 := tally_ink bs W' H'
    rw [e2]
    obtain ⟨P1, hP1⟩ : ∃ x, x = tally cs (W * H) := ⟨_, rfl⟩
    obtain ⟨P2, hP2⟩ : ∃ x, x = tally bs (W' * H') := ⟨_, rfl⟩
    rw [← hP1] at t1 hT1 ⊢
    rw [← hP2] at t2 hT2 ⊢
    obtain ⟨F, hF⟩ : ∃ F, F = shifted (inkF cs W H) (inkF bs W' H') W H W' H' r := ⟨_, rfl⟩
    have hFb : ∀ k, mostN F k ≤ 16000000 := fun k => by
     have := most_shift_le (inkF cs W H) (inkF bs W' H') W H W' H' r k
     rw [← hF] at this
     rw [Nat.mul_comm] at this
     omega
    have hFi : ∀ i j, j < 2 * r + 1 → F (i * (2 * r + 1) + j) = bothN (inkF cs W H) (inkF bs W' H') W H W' H' ((j : Int) - (r : Int)) ((i : Int) - (r : Int)) := fun i j hj => by
     rw [hF]
     unfold shifted
     rw [(shift_at r i j hj).1, (shift_at r i j hj).2]
    have hres : farN (inkF cs W H) (inkF bs W' H') W H W' H' r = (P1 : Int) + (P2 : Int) - 2 * (mostN F ((2 * r + 1) * (2 * r + 1)) : Int) := by
     unfold farN
     rw [← hF, ← hT1, ← hT2]
    have k1 := (w21.bl hbr).all3
    have k2 := (w22.bl hbr).all3
    have HA2 := Lib.hid (HA.out.bl hbr); have HB2 := Lib.hid (HB.out.bl hbr)
    have HFb := Lib.hid hFb; have HFi := Lib.hid hFi; have HRs := Lib.hid hres
    clear hF hFb hFi hres hT1 hT2 hP1 hP2 e2 i0 i1 HA HB
    go_wp2_with fail
    go_loopw [13, 12] (fun u v wx => ∃ i : Nat, i ≤ 2 * r + 1 ∧ u = .int .i64 ((i : Int) - (r : Int)) ∧ v = .int .i64 (mostN F (i * (2 * r + 1)) : Nat) ∧ wr = wx) (fun u _ _ => 2 * r + 1 - (RowKit.intOf u + (r : Int)).toNat)
    case atStart => exact ⟨0, Nat.zero_le _, by simp, by simp [mostN], rfl⟩
    case round =>
     obtain ⟨i, hi, rfl, rfl, rfl⟩ := hrel
     by_cases hlt : i < 2 * r + 1
     · have hc : (i : Int) - (r : Int) ≤ (r : Int) := by omega
       obtain ⟨dy, hdy⟩ : ∃ dy, dy = (i : Int) - (r : Int) := ⟨_, rfl⟩
       have hd1 : -4 ≤ dy ∧ dy ≤ 4 := by omega
       rw [← hdy] at hc ⊢
       have HDy := Lib.hid hdy
       have hM0 := HFb.out (i * (2 * r + 1))
       clear hdy
       go_wp2_with fail
       go_loopw [14, 12] (fun u v wx => ∃ j : Nat, j ≤ 2 * r + 1 ∧ u = .int .i64 ((j : Int) - (r : Int)) ∧ v = .int .i64 (mostN F (i * (2 * r + 1) + j) : Nat) ∧ wr = wx) (fun u _ _ => 2 * r + 1 - (RowKit.intOf u + (r : Int)).toNat)
       case atStart => exact ⟨0, Nat.zero_le _, by simp, by simp, rfl⟩
       case round =>
        obtain ⟨j, hj, rfl, rfl, rfl⟩ := hrel
        by_cases hjt : j < 2 * r + 1
        · have hFj := HFi.out i j hjt
          have hcj : (j : Int) - (r : Int) ≤ (r : Int) := by omega
          obtain ⟨dx, hdx⟩ : ∃ dx, dx = (j : Int) - (r : Int) := ⟨_, rfl⟩
          have hd2 : -4 ≤ dx ∧ dx ≤ 4 := by omega
          rw [← hdx, ← HDy.out, both_rows] at hFj
          rw [← hdx] at hcj ⊢
          have HDx := Lib.hid hdx
          have hM1 := HFb.out (i * (2 * r + 1) + j)
          obtain ⟨M, hM⟩ : ∃ M, M = mostN F (i * (2 * r + 1) + j) := ⟨_, rfl⟩
          have hMs : mostN F (i * (2 * r + 1) + (j + 1)) = max M (F (i * (2 * r + 1) + j)) := by rw [hM]; rfl
          rw [← hM] at hM1 ⊢
          obtain ⟨x0, hx0⟩ : ∃ x0 : Nat, (x0 : Int) = max 0 dx := ⟨(max 0 dx).toNat, by omega⟩
          obtain ⟨y0, hy0⟩ : ∃ y0 : Nat, (y0 : Int) = max 0 dy := ⟨(max 0 dy).toNat, by omega⟩
          obtain ⟨x1, hx1⟩ : ∃ x1, x1 = min (W : Int) ((W' : Int) + dx) := ⟨_, rfl⟩
          obtain ⟨y1, hy1⟩ : ∃ y1, y1 = min (H : Int) ((H' : Int) + dy) := ⟨_, rfl⟩
          have gx0 : (if (0 : Int) < dx then dx else 0) = (x0 : Int) := by split <;> omega
          have gy0 : (if (0 : Int) < dy then dy else 0) = (y0 : Int) := by split <;> omega
          have gx1 : (if (W : Int) < (W' : Int) + dx then (W : Int) else (W' : Int) + dx) = x1 := by split <;> omega
          have gy1 : (if (H : Int) < (H' : Int) + dy then (H : Int) else (H' : Int) + dy) = y1 := by split <;> omega
          have gx2 : (if dx < 0 then (0 : Int) else dx) = (x0 : Int) := by split <;> omega
          have gy2 : (if dy < 0 then (0 : Int) else dy) = (y0 : Int) := by split <;> omega
          have gx3 : (if (W' : Int) + dx < (W : Int) then (W' : Int) + dx else (W : Int)) = x1 := by split <;> omega
          have gy3 : (if (H' : Int) + dy < (H : Int) then (H' : Int) + dy else (H : Int)) = y1 := by split <;> omega
          rw [← hx0, ← hx1, ← hy0, ← hy1] at hFj
          obtain ⟨nx, hnx⟩ : ∃ nx, nx = overN (x0 : Int) x1 := ⟨_, rfl⟩
          obtain ⟨ny, hny⟩ : ∃ ny, ny = overN (y0 : Int) y1 := ⟨_, rfl⟩
          rw [← hnx, ← hny] at hFj
          obtain ⟨Row, hRow⟩ : ∃ Row, Row = meetN (inkF cs W H) (inkF bs W' H') dx dy (x0 : Int) nx := ⟨_, rfl⟩
          rw [← hRow] at hFj
          have HFj := Lib.hid hFj; have HMs := Lib.hid hMs; have HRow := Lib.hid hRow; have HM := Lib.hid hM
          have Hx0 := Lib.hid hx0; have Hy0 := Lib.hid hy0; have Hx1 := Lib.hid hx1; have Hy1 := Lib.hid hy1; have Hnx := Lib.hid hnx; have Hny := Lib.hid hny
          have hrl : ∀ y, Row y ≤ nx := fun y => by rw [hRow]; unfold meetN; have := winN_le (c := 1) (fun x => b1_le (inkF cs W H x y && inkF bs W' H' (x - dx) (y - dy))) (x0 : Int) nx; omega
          have hwl : ∀ k, k ≤ ny → winN Row (y0 : Int) k ≤ 16000000 := fun k hk => by
           have h1 := winN_le (c := nx) hrl (y0 : Int) k
           have h2 : nx ≤ W := by rw [hnx]; unfold overN; omega
           have h3 : k ≤ H := by have : ny ≤ H := by rw [hny]; unfold overN; omega
                                 omega
           have h4 := Nat.mul_le_mul h3 h2
           rw [Nat.mul_comm H W] at h4
           omega
          have HWl := Lib.hid hwl
          have hy4 : y0 ≤ 4 := by omega
          have hx4 : x0 ≤ 4 := by omega
          clear hFj hMs hRow hM hx0 hy0 hx1 hy1 hnx hny hrl hwl hdx
          go_wp2_with fail
          go_loopw [16, 15] (fun u v wx => ∃ y : Nat, y0 ≤ y ∧ y ≤ y0 + ny ∧ u = .int .i64 (y : Int) ∧ v = .int .i64 (winN Row (y0 : Int) (y - y0) : Nat) ∧ wr = wx) (fun u _ _ => y0 + ny - (RowKit.intOf u).toNat)
          case atStart => exact ⟨y0, Nat.le_refl _, by omega, rfl, by rw [Nat.sub_self]; rfl, rfl⟩
          case round =>
           obtain ⟨y, hya, hyb, rfl, rfl, rfl⟩ := hrel
           by_cases hyt : y < y0 + ny
           · have hyc : (y : Int) < y1 := by have := Hny.out; unfold overN at this; omega
             have hP := HWl.out (y - y0) (by omega)
             have hPs : winN Row (y0 : Int) (y + 1 - y0) = winN Row (y0 : Int) (y - y0) + Row (y : Int) := by
              rw [show y + 1 - y0 = (y - y0) + 1 by omega, winN_succ, show (y0 : Int) + ((y - y0 : Nat) : Int) = (y : Int) by omega]
             have hPb := HWl.out (y + 1 - y0) (by omega)
             have hyH : y < H := by have := Hy1.out; omega
             obtain ⟨yb, hyb2⟩ : ∃ yb : Nat, (yb : Int) = (y : Int) - dy := ⟨((y : Int) - dy).toNat, by have := Hy0.out; omega⟩
             have hybH : yb < H' := by have := Hy1.out; omega
             obtain ⟨G, hG⟩ : ∃ G : Int → Nat, G = fun x => b1 (inkF cs W H x (y : Int) && inkF bs W' H' (x - dx) ((y : Int) - dy)) := ⟨_, rfl⟩
             have hRG : Row (y : Int) = winN G (x0 : Int) nx := by rw [HRow.out, hG]; rfl
             rw [hRG] at hPs
             obtain ⟨P, hPP⟩ : ∃ P, P = winN Row (y0 : Int) (y - y0) := ⟨_, rfl⟩
             rw [← hPP] at hP hPs ⊢
             have hGl : ∀ k, winN G (x0 : Int) k ≤ k := fun k => by have := winN_le (f := G) (c := 1) (fun z => by rw [hG]; exact b1_le _) (x0 : Int) k; omega
             have hGx : ∀ xn xb : Nat, xn < W → xb < W' → (xb : Int) = (xn : Int) - dx → G (xn : Int) = b1 (cs.getD (y * W + xn) false && bs.getD (yb * W' + xb) false) := fun xn xb h1 h2 h3 => by
              rw [hG]
              show b1 (inkF cs W H xn y && inkF bs W' H' ((xn : Int) - dx) ((y : Int) - dy)) = _
              rw [← hyb2, ← h3, inkF_at cs W H xn y h1 hyH, inkF_at bs W' H' xb yb h2 hybH]
             have q1 : 0 ≤ (y : Int) * (W : Int) ∧ (y : Int) * (W : Int) ≤ 16000000 := by
              have h5 := Int.natCast_mul y W
              have h6 := Nat.mul_le_mul (show y ≤ 4000 by omega) hW
              omega
             have q2 : 0 ≤ (yb : Int) * (W' : Int) ∧ (yb : Int) * (W' : Int) ≤ 16000000 := by
              have h5 := Int.natCast_mul yb W'
              have h6 := Nat.mul_le_mul (show yb ≤ 4000 by omega) hW'
              omega
             have hnxW : nx ≤ 4000 := by have := Hnx.out; unfold overN at this; have := Hx1.out; omega
             have hyb3 : (y : Int) - dy = (yb : Int) := hyb2.symm
             have HPs := Lib.hid hPs; have HGx := Lib.hid hGx; have HGl := Lib.hid hGl
             clear hPs hG hRG hPP hGl hGx hPb hyb2
             go_wp2_with fail
             go_loopw [17, 15] (fun u v wx => ∃ x : Nat, x0 ≤ x ∧ x ≤ x0 + nx ∧ u = .int .i64 (x : Int) ∧ v = .int .i64 ((P + winN G (x0 : Int) (x - x0) : Nat) : Int) ∧ wr = wx) (fun u _ _ => x0 + nx - (RowKit.intOf u).toNat)
             case atStart => exact ⟨x0, Nat.le_refl _, by omega, rfl, by rw [Nat.sub_self]; rfl, rfl⟩
             case round =>
              obtain ⟨x, hxa, hxb, rfl, rfl, rfl⟩ := hrel
              have hV := HGl.out (x - x0)
              have hVs : winN G (x0 : Int) (x + 1 - x0) = winN G (x0 : Int) (x - x0) + G (x : Int) := by
               rw [show x + 1 - x0 = (x - x0) + 1 by omega, winN_succ, show (x0 : Int) + ((x - x0 : Nat) : Int) = (x : Int) by omega]
              by_cases hxt : x < x0 + nx
              · have hxc : (x : Int) < x1 := by have := Hnx.out; unfold overN at this; omega
                have hxW : x < W := by have := Hx1.out; omega
                obtain ⟨xb, hxb2⟩ : ∃ xb : Nat, (xb : Int) = (x : Int) - dx := ⟨((x : Int) - dx).toNat, by have := Hx0.out; omega⟩
                have hxbW : xb < W' := by have := Hx1.out; omega
                have hGv := HGx.out x xb hxW hxbW hxb2
                obtain ⟨ka, hka⟩ : ∃ ka, ka = y * W + x := ⟨_, rfl⟩
                obtain ⟨kb, hkb⟩ : ∃ kb, kb = yb * W' + xb := ⟨_, rfl⟩
                have eka : (y : Int) * (W : Int) + (x : Int) = (ka : Int) := by rw [hka]; simp
                have ekb : (yb : Int) * (W' : Int) + (x : Int) - dx = (kb : Int) := by
                 have : (kb : Int) = (yb : Int) * (W' : Int) + (xb : Int) := by rw [hkb]; simp
                 omega
                have hkal : ka < W * H := by rw [hka]; exact place_lt hxW hyH
                have hkbl : kb < W' * H' := by rw [hkb]; exact place_lt hxbW hybH
                obtain ⟨ada, eA, ja⟩ := pix_cell HA2.out hkal
                obtain ⟨adb, eB, jb⟩ := pix_cell HB2.out hkbl
                rw [← hka, ← hkb] at hGv
                obtain ⟨va, hva⟩ : ∃ v, v = cs.getD ka false := ⟨_, rfl⟩
                obtain ⟨vb, hvb⟩ : ∃ v, v = bs.getD kb false := ⟨_, rfl⟩
                rw [← hva] at ja hGv
                rw [← hvb] at jb hGv
                rw [hGv] at hVs
                obtain ⟨V, hVV⟩ : ∃ V, V = winN G (x0 : Int) (x - x0) := ⟨_, rfl⟩
                rw [← hVV] at hV hVs ⊢
                have HVs := Lib.hid hVs
                subst eA
                subst eB
                clear hVs hVV hva hvb hGv hka hkb hxb2
                cases va
                · have HN := Lib.hid (show P + winN G (x0 : Int) (x + 1 - x0) = P + V by rw [HVs.out]; rfl)
                  go_wp2_with fail
                  exact ⟨⟨x + 1, by omega, by omega, by go_num, by rw [HN.out], trivial⟩, by simp [RowKit.intOf] <;> omega⟩
                · cases vb
                  · have HN := Lib.hid (show P + winN G (x0 : Int) (x + 1 - x0) = P + V by rw [HVs.out]; rfl)
                    go_wp2_with fail
                    exact ⟨⟨x + 1, by omega, by omega, by go_num, by rw [HN.out], trivial⟩, by simp [RowKit.intOf] <;> omega⟩
                  · have HN := Lib.hid (show P + winN G (x0 : Int) (x + 1 - x0) = P + V + 1 by rw [HVs.out]; rfl)
                    go_wp2_with fail
                    exact ⟨⟨x + 1, by omega, by omega, by go_num, by rw [HN.out]; go_num, trivial⟩, by simp [RowKit.intOf] <;> omega⟩
              · obtain rfl : x = x0 + nx := by omega
                have hxc : ¬ ((x0 : Int) + (nx : Int) < x1) := by have := Hnx.out; unfold overN at this; omega
                have HN := Lib.hid (show winN Row (y0 : Int) (y + 1 - y0) = P + winN G (x0 : Int) (x0 + nx - x0) by rw [HPs.out, show x0 + nx - x0 = nx by omega])
                go_wp2_with fail
                exact ⟨⟨y + 1, by omega, by omega, by go_num, by rw [HN.out], trivial⟩, by simp [RowKit.intOf] <;> omega⟩
           · obtain rfl : y = y0 + ny := by omega
             have hyc : ¬ ((y0 : Int) + (ny : Int) < y1) := by have := Hny.out; unfold overN at this; omega
             have hFv := HFj.out
             have hMs := HMs.out
             have hFvl := HWl.out ny (Nat.le_refl _)
             rw [show y0 + ny - y0 = ny by omega]
             rw [hFv] at hMs
             obtain ⟨V, hVV⟩ : ∃ V, V = winN Row (y0 : Int) ny := ⟨_, rfl⟩
             rw [← hVV] at hMs hFvl ⊢
             obtain ⟨Mx, hMx⟩ : ∃ Mx, Mx = max M V := ⟨_, rfl⟩
             rw [← hMx] at hMs
             have gm1 : (if (M : Int) < (V : Int) then (V : Int) else (M : Int)) = (Mx : Int) := by split <;> omega
             have gm2 : (if M < V then (V : Int) else (M : Int)) = (Mx : Int) := by split <;> omega
             have gm3 : (if (V : Int) < (M : Int) then (M : Int) else (V : Int)) = (Mx : Int) := by split <;> omega
             have gm4 : (if V < M then (M : Int) else (V : Int)) = (Mx : Int) := by split <;> omega
             have HMs2 := Lib.hid hMs
             clear hFv hMs hVV hMx
             go_wp2_with fail
             exact ⟨⟨j + 1, hjt, by rw [HDx.out]; go_num, by rw [HMs2.out], trivial⟩, by rw [HDx.out]; simp [RowKit.intOf] <;> omega⟩
        · obtain rfl : j = 2 * r + 1 := by omega
          have hcj : ¬ (((2 * r + 1 : Nat) : Int) - (r : Int) ≤ (r : Int)) := by omega
          have he : i * (2 * r + 1) + (2 * r + 1) = (i + 1) * (2 * r + 1) := by rw [Nat.add_mul, Nat.one_mul]
          rw [he]
          have HDy2 := HDy
          go_wp2_with fail
          exact ⟨⟨i + 1, hlt, by rw [HDy.out]; go_num, rfl, trivial⟩, by rw [HDy.out]; simp [RowKit.intOf] <;> omega⟩
     · obtain rfl : i = 2 * r + 1 := by omega
       have hc : ¬ (((2 * r + 1 : Nat) : Int) - (r : Int) ≤ (r : Int)) := by omega
       have hb := HFb.out ((2 * r + 1) * (2 * r + 1))
       obtain ⟨M, hM⟩ : ∃ M, M = mostN F ((2 * r + 1) * (2 * r + 1)) := ⟨_, rfl⟩
       have hres := HRs.out
       rw [← hM] at hb hres ⊢
       have HR2 := Lib.hid hres
       clear hM hres
       go_wp2_with fail
       go_ret
       exact ⟨ret_int (by rw [HR2.out] <;> omega), w2b.trans hbr⟩

end Go.Proofs.YthobmednnocklaaGreatDoor


/-! Rows that a call owns, and rows that lie: cells that are set, rows that grow. -/
namespace Go.Proofs.YthobmednnocklaaGreatDoor
open Go.RowKit

theorem ownsRow_set {w : World} {base : Nat} {e : TypeId} {size n g cap : Nat} {xs : List Value} (h : w.ownsRow base e size (.slice (some ⟨g, 0, none⟩) n cap) n xs) (j : Nat) (u : Value) : (w.setCell ⟨g, j, none⟩ u).ownsRow base e size (.slice (some ⟨g, 0, none⟩) n cap) n (xs.set j u) := by
 refine ⟨by rw [List.length_set]; exact h.1, ?_⟩
 rcases h.2 with ⟨hv, _⟩ | ⟨g', cap', cur, hv, hb, hg, hn, hc, hs, ht⟩
 · cases hv
 · injection hv with h1 h2 h3
   injection h1 with h1
   injection h1 with h1
   subst h1
   subst h3
   refine .inr ⟨g, cap, cur.setIfInBounds j u, rfl, hb, ?_, hn, hc, by simpa using hs, ?_⟩
   · simp [World.setCell, Array.getElem?_modify, hg]
   · rw [Array.toList_setIfInBounds, List.take_set, ht]
theorem add_flat (g i : Nat) : (⟨g, 0, none⟩ : Addr).add i = ⟨g, i, none⟩ := by unfold Addr.add; split <;> simp_all
theorem Reads.lt {w : World} {A : Option Addr} {n : Nat} {xs : List Value} (h : Reads w 1 A n xs) : ∀ a, A = some a → 0 < n → a.block < w.heap.size := fun a ha hn => by
 obtain ⟨ad, u, e, -, hc⟩ := h.at_ hn
 rw [ha] at e
 injection e with e
 subst e
 have := World.block_lt_of_cell? w _ hc
 rwa [block_of_add] at this
theorem Reads.far {w : World} {size n : Nat} {A : Option Addr} {xs : List Value} (h : Reads w size A n xs) {p : Addr} (hn : ∀ a, A = some a → 0 < n → a.block ≠ p.block) (u : Value) : Reads (w.setCell p u) size A n xs :=
 ⟨h.1, fun hk => by
  obtain ⟨ad, e, hc⟩ := h.2 hk
  exact ⟨ad, e, fun j x hx => by rw [World.cell?_setCell_other w p _ u (fun e' => by have h1 := hn ad e hk; have h2 := congrArg Addr.block e'; rw [block_of_add] at h2; omega)]; exact hc j x hx⟩⟩
theorem Reads.grown {w w' : World} {n : Nat} {A : Option Addr} {xs : List Value} {row : Option Nat} (h : Reads w 1 A n xs) (hb : w.grownBy w' row) (hn : ∀ a, A = some a → 0 < n → some a.block ≠ row) : Reads w' 1 A n xs :=
 ⟨h.1, fun hk => by
  obtain ⟨ad, e, hc⟩ := h.2 hk
  refine ⟨ad, e, fun j x hx => ?_⟩
  rw [World.cell?_of_block (hb.block _ (by rw [block_of_add]; exact h.lt ad e hk) (by rw [block_of_add]; exact hn ad e hk))]
  exact hc j x hx⟩
theorem own_some {w : World} {base : Nat} {e : TypeId} {size n : Nat} {v : Value} {xs : List Value} (h : w.ownsRow base e size v n xs) (hn : 0 < n) : ∃ g cap, v = .slice (some ⟨g, 0, none⟩) n cap ∧ base ≤ g ∧ n ≤ cap := by
 rcases h.2 with ⟨-, h0⟩ | ⟨g, cap, cur, rfl, hb, -, hc, -⟩
 · omega
 · exact ⟨g, cap, rfl, hb, hc⟩
theorem own_lt {w : World} {base : Nat} {e : TypeId} {size n g cap : Nat} {xs : List Value} (h : w.ownsRow base e size (.slice (some ⟨g, 0, none⟩) n cap) n xs) : g < w.heap.size := by
 rcases h.2 with ⟨hv, -⟩ | ⟨g', cap', cur, hv, -, hg, -⟩
 · cases hv
 · injection hv with h1 h2 h3
   injection h1 with h1
   injection h1 with h1
   subst h1
   exact (Array.getElem?_eq_some_iff.1 hg).1
theorem own_blk {w : World} {base : Nat} {e : TypeId} {size n g cap : Nat} {xs : List Value} (h : w.ownsRow base e size (.slice (some ⟨g, 0, none⟩) n cap) n xs) : (∀ j, j < n * size → ∃ v, w.cell? ⟨g, j, none⟩ = some v) ∧ ∀ j, w.frozen? ⟨g, j, none⟩ = false := by
 rcases h.2 with ⟨hv, -⟩ | ⟨g', cap', cur, hv, -, hg, hn, -, hs, -⟩
 · cases hv
 · injection hv with h1 h2 h3
   injection h1 with h1
   injection h1 with h1
   subst h1
   subst h3
   have hb : Blk w g e cur := hg
   refine ⟨fun j hj => ?_, hb.frozen⟩
   have hlt : j < cur.size := by have := Nat.mul_le_mul_right size hn; omega
   exact ⟨cur[j], by rw [hb.cell]; exact Array.getElem?_eq_getElem hlt⟩
theorem page_ok {W H : Nat} (h1 : 1 ≤ W) (h2 : W ≤ 4000) (h3 : 1 ≤ H) (h4 : H ≤ 4000) (h5 : W * H ≤ 1048576) : pageErr (W : Int) (H : Int) (W * H) = 0 := by
 have e := Int.natCast_mul W H
 have hs : sizeErr (W : Int) (H : Int) = 0 := by
  unfold sizeErr
  rw [if_pos (by omega), if_neg (by omega)]
 unfold pageErr
 rw [if_pos hs, if_pos (by omega)]

end Go.Proofs.YthobmednnocklaaGreatDoor
