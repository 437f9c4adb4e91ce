/- bedref2.CutOf. -/
import Derived.Test.YtfngcokfigbhgaaDoorMClaimBack3
import Derived.Test.YtfngcokfigbhgaaDoorMClaimBack2

namespace Go.Proofs.YtfngcokfigbhgaaDoor
open Go.RowKit

/-- How far a letter is from a shape, at a reach of 1. -/
def farL (cs : List Bool) (W H : Nat) (l : Ltr) : Int := farN (inkF cs W H) (inkF l.bs l.W.toNat l.H.toNat) W H l.W.toNat l.H.toNat 1
/-- The nearest letter's text, how far it is, and the next. -/
abbrev Best := List UInt8 × Int × Int
def bestStep (cs : List Bool) (W H : Nat) (s : Best) (l : Ltr) : Best :=
  if l.W - (W : Int) < -2 ∨ 2 < l.W - (W : Int) then s
  else if s.2.1 < 0 ∨ farL cs W H l < s.2.1 then (l.text, farL cs W H l, s.2.1)
  else if s.2.2 < 0 ∨ farL cs W H l < s.2.2 then (s.1, s.2.1, farL cs W H l)
  else s
def bestOf (cs : List Bool) (W H : Nat) (t0 : List UInt8) (ls : List Ltr) : Best := ls.foldl (bestStep cs W H) (t0, -1, -1)
theorem bestOf_succ {cs : List Bool} {W H : Nat} {t0 : List UInt8} {ls : List Ltr} {i : Nat} {l : Ltr} (h : ls[i]? = some l) : bestOf cs W H t0 (ls.take (i + 1)) = bestStep cs W H (bestOf cs W H t0 (ls.take i)) l := by
  unfold bestOf
  rw [List.take_add_one, h, List.foldl_append]
  rfl
theorem far_range {W H W' H' r : Nat} {cs bs : List Bool} (hW : W ≤ 4000) (hH : H ≤ 4000) (hW' : W' ≤ 4000) (hH' : H' ≤ 4000) : 0 ≤ farN (inkF cs W H) (inkF bs W' H') W H W' H' r ∧ farN (inkF cs W H) (inkF bs W' H') W H W' H' r ≤ 32000000 := by
  have h1 := tally_ink cs W H
  have h2 := tally_ink bs W' H'
  have h3 := tally_le cs (W * H)
  have h4 := tally_le bs (W' * H')
  have h5 := Nat.mul_le_mul hW hH
  have h6 := Nat.mul_le_mul hW' hH'
  have hFm : mostN (shifted (inkF cs W H) (inkF bs W' H') W H W' H' r) ((2 * r + 1) * (2 * r + 1)) ≤ (inkA (inkF cs W H) W H + inkA (inkF bs W' H') W' H') / 2 := mostN_le fun idx hidx => by
    have e1 : idx / (2 * r + 1) < 2 * r + 1 := Nat.div_lt_of_lt_mul (by omega)
    have e2 : idx % (2 * r + 1) < 2 * r + 1 := Nat.mod_lt _ (by omega)
    have h7 : diffN (inkF cs W H) (inkF bs W' H') W H W' H' r (shiftX r idx) (shiftY r idx) + 2 * bothN (inkF cs W H) (inkF bs W' H') W H W' H' (shiftX r idx) (shiftY r idx) = inkA (inkF cs W H) W H + inkA (inkF bs W' H') W' H' := by
      unfold shiftX shiftY
      obtain ⟨a, ha⟩ : ∃ a, a = idx % (2 * r + 1) := ⟨_, rfl⟩
      obtain ⟨b, hb⟩ : ∃ b, b = idx / (2 * r + 1) := ⟨_, rfl⟩
      rw [← ha, ← hb]
      rw [← ha] at e2
      rw [← hb] at e1
      exact diff_both (inkF_held cs W H) (inkF_held bs W' H') (by omega) (by omega) (by omega) (by omega)
    unfold shifted
    omega
  unfold farN
  omega
/-- What holds of the best, whatever letters came. -/
theorem best_inv {cs : List Bool} {W H : Nat} (t0 : List UInt8) (hW : W ≤ 4000) (hH : H ≤ 4000) {ls : List Ltr} (hl : ∀ l ∈ ls, l.W ≤ 64 ∧ l.H ≤ 4000) : (bestOf cs W H t0 ls).2.1 = -1 ∧ (bestOf cs W H t0 ls).2.2 = -1 ∨ (0 ≤ (bestOf cs W H t0 ls).2.1 ∧ (bestOf cs W H t0 ls).2.1 ≤ 32000000 ∧ -1 ≤ (bestOf cs W H t0 ls).2.2 ∧ (bestOf cs W H t0 ls).2.2 ≤ 32000000) := by
  have key : ∀ (ls : List Ltr) (s : Best), (∀ l ∈ ls, l.W ≤ 64 ∧ l.H ≤ 4000) → (s.2.1 = -1 ∧ s.2.2 = -1 ∨ (0 ≤ s.2.1 ∧ s.2.1 ≤ 32000000 ∧ -1 ≤ s.2.2 ∧ s.2.2 ≤ 32000000)) →
      ((ls.foldl (bestStep cs W H) s).2.1 = -1 ∧ (ls.foldl (bestStep cs W H) s).2.2 = -1 ∨ (0 ≤ (ls.foldl (bestStep cs W H) s).2.1 ∧ (ls.foldl (bestStep cs W H) s).2.1 ≤ 32000000 ∧ -1 ≤ (ls.foldl (bestStep cs W H) s).2.2 ∧ (ls.foldl (bestStep cs W H) s).2.2 ≤ 32000000)) := by
    intro ls
    induction ls with
    | nil => intro s _ h; exact h
    | cons l ls ih =>
      intro s hl h
      refine ih (bestStep cs W H s l) (fun x hx => hl x (List.mem_cons_of_mem _ hx)) ?_
      have hll := hl l (List.mem_cons_self ..)
      have hr : 0 ≤ farL cs W H l ∧ farL cs W H l ≤ 32000000 := far_range hW hH (by omega) (by omega)
      unfold bestStep
      split
      · exact h
      · split
        · right
          show 0 ≤ farL cs W H l ∧ farL cs W H l ≤ 32000000 ∧ -1 ≤ s.2.1 ∧ s.2.1 ≤ 32000000
          omega
        · split
          · right
            show 0 ≤ s.2.1 ∧ s.2.1 ≤ 32000000 ∧ -1 ≤ farL cs W H l ∧ farL cs W H l ≤ 32000000
            omega
          · exact h
  exact key ls _ hl (.inl ⟨rfl, rfl⟩)
/-- The text that one begins with counts only where no letter came near. -/
theorem best_text {cs : List Bool} {W H : Nat} (t0 t1 : List UInt8) (ls : List Ltr) (hW : W ≤ 4000) (hH : H ≤ 4000) (hl : ∀ l ∈ ls, l.W ≤ 64 ∧ l.H ≤ 4000) : (bestOf cs W H t0 ls).2 = (bestOf cs W H t1 ls).2 ∧ (0 ≤ (bestOf cs W H t0 ls).2.1 → (bestOf cs W H t0 ls).1 = (bestOf cs W H t1 ls).1) := by
  have key : ∀ (ls : List Ltr) (s u : Best), (∀ l ∈ ls, l.W ≤ 64 ∧ l.H ≤ 4000) → s.2 = u.2 → (0 ≤ s.2.1 → s.1 = u.1) → (ls.foldl (bestStep cs W H) s).2 = (ls.foldl (bestStep cs W H) u).2 ∧ (0 ≤ (ls.foldl (bestStep cs W H) s).2.1 → (ls.foldl (bestStep cs W H) s).1 = (ls.foldl (bestStep cs W H) u).1) := by
    intro ls
    induction ls with
    | nil => intro s u _ h1 h2; exact ⟨h1, h2⟩
    | cons l ls ih =>
      intro s u hl h1 h2
      have hll := hl l (List.mem_cons_self ..)
      refine ih _ _ (fun x hx => hl x (List.mem_cons_of_mem _ hx)) ?_ ?_
      · unfold bestStep
        rw [h1]
        split
        · exact h1
        · split
          · rfl
          · split <;> first | rfl | exact h1
      · unfold bestStep
        rw [h1]
        split
        · intro h; first | exact h2 h | exact h2 (by rw [h1]; exact h)
        · split
          · intro _; rfl
          · rename_i hno
            split
            · intro h
              first | exact h2 h | exact h2 (by rw [h1]; exact h)
            · intro h
              first | exact h2 h | exact h2 (by rw [h1]; exact h)
  exact key ls _ _ hl rfl (fun h => absurd h (show ¬ (0 : Int) ≤ -1 by decide))
/-- What is seen of a piece. -/
def farOff (b : Best) (most ht w : Int) : Bool := decide (b.2.1 < 0 ∨ most * ht * w < b.2.1 * 1000)
def seenCells (b : Best) (X W H : Nat) (most ht : Int) : List Value :=
  if farOff b most ht W = true then [.string ⟨#[63]⟩, .int .i64 X, .int .i64 0, .int .i64 W, .int .i64 H, .int .i64 (-1), .int .i64 (-1)]
  else [.string ⟨b.1.toArray⟩, .int .i64 X, .int .i64 0, .int .i64 W, .int .i64 H, .int .i64 b.2.1, .int .i64 b.2.2]
theorem seen_text {cs : List Bool} {bW bH : Nat} (t0 t1 : List UInt8) (ls : List Ltr) (hW : bW ≤ 4000) (hH : bH ≤ 4000) (hl : ∀ l ∈ ls, l.W ≤ 64 ∧ l.H ≤ 4000) (X W H : Nat) (most ht : Int) : seenCells (bestOf cs bW bH t0 ls) X W H most ht = seenCells (bestOf cs bW bH t1 ls) X W H most ht := by
  obtain ⟨h1, h2⟩ := best_text (cs := cs) t0 t1 ls hW hH hl
  have hf : farOff (bestOf cs bW bH t0 ls) most ht W = farOff (bestOf cs bW bH t1 ls) most ht W := by unfold farOff; rw [h1]
  unfold seenCells
  rw [hf]
  split
  · rfl
  · rename_i h
    have h0 : 0 ≤ (bestOf cs bW bH t0 ls).2.1 := by
      rw [← hf] at h
      unfold farOff at h
      simp only [decide_eq_true_eq, not_or] at h
      omega
    rw [h2 h0, h1]

end Go.Proofs.YtfngcokfigbhgaaDoor


/-! boxes in pages, Cut and Ink. -/
namespace Go.Proofs.YtfngcokfigbhgaaDoor
open Go.RowKit

/-! ### boxes -/
def inPageB (X Y BW BH W H : Int) : Bool := decide (0 ≤ X ∧ X < W ∧ 0 ≤ Y ∧ Y < H ∧ 1 ≤ BW ∧ BW ≤ W - X ∧ 1 ≤ BH ∧ BH ≤ H - Y)
def inPageW (X Y BW BH W H : Int) : Bool := inB X 0 (wrap64 (W - 1)) && (inB Y 0 (wrap64 (H - 1)) && (inB BW 1 (wrap64 (W - X)) && inB BH 1 (wrap64 (H - Y))))
theorem inPageW_eq {X Y BW BH W H : Int} (hW : 1 ≤ W ∧ W ≤ 4000) (hH : 1 ≤ H ∧ H ≤ 4000) : inPageW X Y BW BH W H = inPageB X Y BW BH W H := by
  have e1 : wrap64 (W - 1) = W - 1 := by unfold wrap64; omega
  have e2 : wrap64 (H - 1) = H - 1 := by unfold wrap64; omega
  rw [Bool.eq_iff_iff]
  unfold inPageW inPageB
  simp only [e1, e2, Bool.and_eq_true, inB_true, decide_eq_true_eq]
  constructor
  · rintro ⟨h1, h2, h3, h4⟩
    have e3 : wrap64 (W - X) = W - X := by unfold wrap64; omega
    have e4 : wrap64 (H - Y) = H - Y := by unfold wrap64; omega
    rw [e3] at h3
    rw [e4] at h4
    omega
  · rintro ⟨h1, h2, h3, h4, h5⟩
    have e3 : wrap64 (W - X) = W - X := by unfold wrap64; omega
    have e4 : wrap64 (H - Y) = H - Y := by unfold wrap64; omega
    rw [e3, e4]
    omega

set_option maxRecDepth 100000 in
set_option maxHeartbeats 2000000 in
theorem inPage_any (X Y BW BH : Int) (W H : Nat) (w : World) (hW : 1 ≤ W ∧ W ≤ 4000) (hH : 1 ≤ H ∧ H ≤ 4000) :
    Calls Tryd.prog 243 #[.agg #[.int .i64 X, .int .i64 Y, .int .i64 BW, .int .i64 BH], .int .i64 W, .int .i64 H] w fun e w' => e = .returned (.int .i64 (whenI (!inPageB X Y BW BH W H) 13)) ∧ Bl w w' := by
  by_cases hall : 0 ≤ X ∧ X < W ∧ 0 ≤ Y ∧ Y < H ∧ 1 ≤ BW ∧ BW ≤ W - X ∧ 1 ≤ BH ∧ BH ≤ H - Y
  · have e : inPageB X Y BW BH W H = true := by unfold inPageB; exact decide_eq_true hall
    rw [e]
    clear e
    obtain ⟨c1, c2, c3, c4, c5, c6, c7, c8⟩ := hall
    go_enter Tryd.func243, Tryd.ntmps243
    go_wp2_with fail
    go_ret
    exact ⟨rfl, (Bl.refl _).alloc _⟩
  · have e : inPageB X Y BW BH W H = false := by unfold inPageB; exact decide_eq_false hall
    rw [e]
    clear e
    rcases (show BW < 1 ∨ (¬ BW < 1 ∧ BH < 1) ∨ (¬ BW < 1 ∧ ¬ BH < 1 ∧ X < 0) ∨ (¬ BW < 1 ∧ ¬ BH < 1 ∧ ¬ X < 0 ∧ Y < 0) ∨ (¬ BW < 1 ∧ ¬ BH < 1 ∧ ¬ X < 0 ∧ ¬ Y < 0 ∧ (W : Int) ≤ X) ∨ (¬ BW < 1 ∧ ¬ BH < 1 ∧ ¬ X < 0 ∧ ¬ Y < 0 ∧ ¬ (W : Int) ≤ X ∧ (H : Int) ≤ Y) ∨
      (¬ BW < 1 ∧ ¬ BH < 1 ∧ ¬ X < 0 ∧ ¬ Y < 0 ∧ ¬ (W : Int) ≤ X ∧ ¬ (H : Int) ≤ Y ∧ (W : Int) - X < BW) ∨ (¬ BW < 1 ∧ ¬ BH < 1 ∧ ¬ X < 0 ∧ ¬ Y < 0 ∧ ¬ (W : Int) ≤ X ∧ ¬ (H : Int) ≤ Y ∧ ¬ (W : Int) - X < BW ∧ (H : Int) - Y < BH) by omega) with
      c1 | ⟨c1, c2⟩ | ⟨c1, c2, c3⟩ | ⟨c1, c2, c3, c4⟩ | ⟨c1, c2, c3, c4, c5⟩ | ⟨c1, c2, c3, c4, c5, c6⟩ | ⟨c1, c2, c3, c4, c5, c6, c7⟩ | ⟨c1, c2, c3, c4, c5, c6, c7, c8⟩
    all_goals
      clear hall
      go_enter Tryd.func243, Tryd.ntmps243
      go_wp2_with fail
      go_ret
      exact ⟨rfl, (Bl.refl _).alloc _⟩

def cutErr (W H : Int) (n : Nat) (X Y BW BH : Int) : Int := firstNZ [pageErr W H n, whenI (!inPageB X Y BW BH W H) 13]
theorem cutErr_zero {W H : Int} {n : Nat} {X Y BW BH : Int} (h : cutErr W H n X Y BW BH = 0) : pageErr W H n = 0 ∧ 0 ≤ X ∧ X < W ∧ 0 ≤ Y ∧ Y < H ∧ 1 ≤ BW ∧ BW ≤ W - X ∧ 1 ≤ BH ∧ BH ≤ H - Y := by
  unfold cutErr firstNZ at h
  split at h
  · rename_i h0
    refine ⟨h0, ?_⟩
    cases hi : inPageB X Y BW BH W H
    · rw [hi] at h; simp [firstNZ, whenI] at h
    · exact of_decide_eq_true hi
  · contradiction
set_option maxRecDepth 100000 in
set_option maxHeartbeats 1000000 in
theorem checkBoth_any (W H : Int) (A : Option Addr) (an ac : Nat) (X Y BW BH : Int) (w : World) :
    Calls Tryd.prog 203 #[.agg #[.int .i64 W, .int .i64 H, .slice A an ac], .agg #[.int .i64 X, .int .i64 Y, .int .i64 BW, .int .i64 BH]] w fun e w' => e = .returned (.int .i64 (cutErr W H an X Y BW BH)) ∧ Bl w w' := by
  let w2 := ((w).alloc (.cells #[.int .i64 W, .int .i64 H, .slice A an ac] 27)).alloc (.cells #[.int .i64 X, .int .i64 Y, .int .i64 BW, .int .i64 BH] 41)
  have w2b : Bl w w2 := ((Bl.refl w).alloc _).alloc _
  have w21 : Blk w2 (w.heap.size) 27 #[.int .i64 W, .int .i64 H, .slice A an ac] := by
    have h0 := Blk.new (w) 27 #[.int .i64 W, .int .i64 H, .slice A an ac]
    exact (h0.alloc _)
  have w22 : Blk w2 (w.heap.size + 1) 41 #[.int .i64 X, .int .i64 Y, .int .i64 BW, .int .i64 BH] := by
    have h0 := Blk.new ((w).alloc (.cells #[.int .i64 W, .int .i64 H, .slice A an ac] 27)) 41 #[.int .i64 X, .int .i64 Y, .int .i64 BW, .int .i64 BH]
    simp only [World.size_alloc] at h0
    exact h0
  have k1 := w21.all3
  by_cases hp : pageErr W H an = 0
  · have e : cutErr W H an X Y BW BH = whenI (!inPageB X Y BW BH W H) 13 := by
      unfold cutErr
      simp only [firstNZ, if_pos hp]
      split <;> simp_all
    rw [e]
    clear e
    have hz := sizeErr_zero (pageErr_zero hp).1
    obtain ⟨W, H, rfl, rfl, rfl, u1, u2, u3⟩ := page_nat hp
    have hW : 1 ≤ W ∧ W ≤ 4000 := by omega
    have hH : 1 ≤ H ∧ H ≤ 4000 := by omega
    clear hz
    go_enter Tryd.func203, Tryd.ntmps203
    go_wp2_with fail
    refine (checkBits_any _ _ _ _ _ _).mono ?_
    rintro e w3 ⟨rfl, hb3⟩
    have k3 := (w21.bl hb3).all3
    have k4 := (w22.bl hb3).all4
    clear k1
    go_wp2_with fail
    refine (inPage_any X Y BW BH W H _ hW hH).mono ?_
    rintro e w4 ⟨rfl, hb4⟩
    go_wp2_with fail
    go_ret
    exact ⟨rfl, (w2b.trans hb3).trans hb4⟩
  · have e : cutErr W H an X Y BW BH = pageErr W H an := by unfold cutErr; simp only [firstNZ, if_neg hp]
    have hq : (pageErr W H an != 0) = true := by simp [hp]
    rw [e]
    clear e hp
    go_enter Tryd.func203, Tryd.ntmps203
    go_wp2_with fail
    refine (checkBits_any _ _ _ _ _ _).mono ?_
    rintro e w3 ⟨rfl, hb3⟩
    go_wp2_with fail
    go_ret
    exact ⟨rfl, w2b.trans hb3⟩

/-! ### Cut -/
def cutF (bs : List Bool) (W X Y x y : Nat) : Bool := pix bs W (X + x) (Y + y)
set_option maxRecDepth 100000 in
set_option maxHeartbeats 1000000 in
theorem cut1_any (p q W H X Y BW BH : Nat) (A : Option Addr) (ac : Nat) (bs : List Bool) (x y : Nat) (w : World) (hp : Blk w p 27 #[.int .i64 W, .int .i64 H, .slice A (W * H) ac]) (hq : Blk w q 41 #[.int .i64 X, .int .i64 Y, .int .i64 BW, .int .i64 BH])
    (hA : Reads w 1 A (W * H) (bs.map .bool)) (hW : W ≤ 4000) (hH : H ≤ 4000) (hx : x < BW) (hy : y < BH) (hX : X + BW ≤ W) (hY : Y + BH ≤ H) :
    Calls Tryd.prog 205 #[.int .i64 x, .int .i64 y, .pointer (some ⟨p, 0, none⟩), .pointer (some ⟨q, 0, none⟩)] w fun e w' => e = .returned (.bool (cutF bs W X Y x y)) ∧ Bl w w' := by
  have kp := hp.all3
  have kq := hq.all4
  have lx : X + x < W := by omega
  have ly : Y + y < H := by omega
  obtain ⟨ad, rfl, hc⟩ := hA.place lx ly
  have hk := place_lt lx ly
  obtain ⟨k, hkk⟩ : ∃ k, k = (Y + y) * W + (X + x) := ⟨_, rfl⟩
  rw [← hkk] at hc hk
  have f0 := Int.natCast_mul (Y + y) W
  have f1 : ((Y : Int) + (y : Int)) * (W : Int) + (X : Int) + (x : Int) = (k : Int) := by rw [hkk]; push_cast; omega
  have f2 : (k : Int) < (W : Int) * (H : Int) := by have := Int.natCast_mul W H; omega
  have f3 : (0 : Int) ≤ ((Y : Int) + (y : Int)) * (W : Int) ∧ ((Y : Int) + (y : Int)) * (W : Int) ≤ 16000000 := by
    have := Nat.mul_le_mul (show Y + y ≤ 4000 by omega) hW
    push_cast at f0
    omega
  unfold cutF
  obtain ⟨v, hv⟩ : ∃ v, v = pix bs W (X + x) (Y + y) := ⟨_, rfl⟩
  rw [← hv] at hc ⊢
  have Hkk := Lib.hid hkk
  clear hv hkk hA f0
  go_enter Tryd.func205, Tryd.ntmps205
  go_wp2_with fail
  go_ret
  exact ⟨rfl, by first | exact Bl.refl _ | exact (Bl.refl _).drew⟩
set_option maxRecDepth 100000 in
set_option maxHeartbeats 2000000 in
theorem cut_any (W H : Int) (A : Option Addr) (an ac : Nat) (bs : List Bool) (X Y BW BH : Int) (w : World) (hA : Reads w 1 A an (bs.map .bool)) :
    Calls Tryd.prog 161 #[.agg #[.int .i64 W, .int .i64 H, .slice A an ac], .agg #[.int .i64 X, .int .i64 Y, .int .i64 BW, .int .i64 BH]] w fun e w' => ∃ a b R m d, e = .returned (.tuple #[.agg #[.int .i64 a, .int .i64 b, .slice R m d], .int .i64 (cutErr W H an X Y BW BH)]) ∧
      Res w.heap.size w' (cutErr W H an X Y BW BH) BW.toNat BH.toNat ((grid BW.toNat BH.toNat (cutF bs W.toNat X.toNat Y.toNat)).map .bool) a b R m d ∧ Bl w w' := by
  by_cases he : cutErr W H an X Y BW BH = 0
  · obtain ⟨hp, c1, c2, c3, c4, c5, c6, c7, c8⟩ := cutErr_zero he
    obtain ⟨W, H, rfl, rfl, rfl, u1, u2, u3⟩ := page_nat hp
    obtain ⟨X, rfl⟩ := Int.eq_ofNat_of_zero_le c1
    obtain ⟨Y, rfl⟩ := Int.eq_ofNat_of_zero_le c3
    obtain ⟨BW, rfl⟩ := Int.eq_ofNat_of_zero_le (show 0 ≤ BW by omega)
    obtain ⟨BH, rfl⟩ := Int.eq_ofNat_of_zero_le (show 0 ≤ BH by omega)
    have hX : X + BW ≤ W := by omega
    have hY : Y + BH ≤ H := by omega
    have hsz : BW * BH ≤ 1048576 := Nat.le_trans (Nat.mul_le_mul (show BW ≤ W by omega) (show BH ≤ H by omega)) u3
    simp only [Int.toNat_natCast]
    clear c1 c2 c3 c4 c5 c6 c7 c8 hp
    let w2 := (((w).alloc (.cells #[.int .i64 W, .int .i64 H, .slice A (W * H) ac] 27)).alloc (.cells #[.int .i64 X, .int .i64 Y, .int .i64 BW, .int .i64 BH] 41)).alloc (.cells #[.int .i64 0, .int .i64 0, .slice none 0 0] 27)
    have w2b : Bl w w2 := (((Bl.refl w).alloc _).alloc _).alloc _
    have w21 : Blk w2 (w.heap.size) 27 #[.int .i64 W, .int .i64 H, .slice A (W * H) ac] := by
      have h0 := Blk.new (w) 27 #[.int .i64 W, .int .i64 H, .slice A (W * H) ac]
      exact ((h0.alloc _).alloc _)
    have w22 : Blk w2 (w.heap.size + 1) 41 #[.int .i64 X, .int .i64 Y, .int .i64 BW, .int .i64 BH] := by
      have h0 := Blk.new ((w).alloc (.cells #[.int .i64 W, .int .i64 H, .slice A (W * H) ac] 27)) 41 #[.int .i64 X, .int .i64 Y, .int .i64 BW, .int .i64 BH]
      simp only [World.size_alloc] at h0
      exact (h0.alloc _)
    have w23 : Blk w2 (w.heap.size + 1 + 1) 27 #[.int .i64 0, .int .i64 0, .slice none 0 0] := by
      have h0 := Blk.new (((w).alloc (.cells #[.int .i64 W, .int .i64 H, .slice A (W * H) ac] 27)).alloc (.cells #[.int .i64 X, .int .i64 Y, .int .i64 BW, .int .i64 BH] 41)) 27 #[.int .i64 0, .int .i64 0, .slice none 0 0]
      simp only [World.size_alloc] at h0
      exact h0
    have k1 := w21.all3
    have k2 := w22.all4
    have hA2 := hA.bl w2b
    have HA := Lib.hid hA2
    clear hA hA2
    go_enter Tryd.func161, Tryd.ntmps161
    go_wp2_with fail
    refine (checkBoth_any _ _ _ _ _ _ _ _ _ _).mono ?_
    rintro e w3 ⟨rfl, hb3⟩
    have k1 := (w21.bl hb3).all3
    have k2 := (w22.bl hb3).all4
    have hle := w2b.trans hb3
    have hP : Paints Tryd.prog 205 #[.pointer (some ⟨w.heap.size, 0, none⟩), .pointer (some ⟨w.heap.size + 1, 0, none⟩)] Value.bool w3 BW BH (cutF bs W X Y) :=
      ⟨enters Tryd.func205 (by kernel_rfl) rfl, fun wx x y hb hx hy => cut1_any _ _ W H X Y BW BH A ac bs x y wx ((w21.bl hb3).bl hb) ((w22.bl hb3).bl hb) ((HA.out.bl hb3).bl hb) u1 u2 hx hy hX hY⟩
    have HP := Lib.hid hP
    clear hP
    go_wp2_with fail
    refine (made_any BW BH _ _ _ _ (by omega) (by omega) hsz HP.out).mono ?_
    rintro e w6 ⟨r, rfl, hpg, hb6⟩
    have k3 := (w23.bl (hb3.trans hb6)).all3
    have hle6 := hle.trans hb6
    have hsz3 := (w23.bl hb3).lt
    obtain ⟨R, rc, rfl, hR, hRn⟩ := hpg
    have hRn' : ∀ ad, R = some ad → w.heap.size + 3 ≤ ad.block := fun ad h => by have := hRn ad h; omega
    have HR := Lib.hid hR; have HRn := Lib.hid hRn'
    clear hR hRn hRn'
    go_wp2_with fail
    refine bodyPost_ret (v := .tuple #[.agg #[.int .i64 BW, .int .i64 BH, .slice R (BW * BH) rc], .int .i64 0]) (by simp [results, Tryd.results161, go_sem, k3]) rfl ⟨_, _, R, _, rc, by rw [he], Res.page he ?_ (fun ad h => by have := HRn.out ad h; omega), ?_⟩
    · exact ((HR.out.store HRn.out (by simp) _).store HRn.out (by simp) _).store HRn.out (by simp) _
    · exact (((hle6.setCell (by simp; omega) _).setCell (by simp; omega) _).setCell (by simp; omega) _)
  · have hq : (cutErr W H an X Y BW BH != 0) = true := by simp [he]
    have He := Lib.hid he
    clear he hA
    let w2 := (((w).alloc (.cells #[.int .i64 W, .int .i64 H, .slice A an ac] 27)).alloc (.cells #[.int .i64 X, .int .i64 Y, .int .i64 BW, .int .i64 BH] 41)).alloc (.cells #[.int .i64 0, .int .i64 0, .slice none 0 0] 27)
    have w2b : Bl w w2 := (((Bl.refl w).alloc _).alloc _).alloc _
    have w21 : Blk w2 (w.heap.size) 27 #[.int .i64 W, .int .i64 H, .slice A an ac] := by
      have h0 := Blk.new (w) 27 #[.int .i64 W, .int .i64 H, .slice A an ac]
      exact ((h0.alloc _).alloc _)
    have w22 : Blk w2 (w.heap.size + 1) 41 #[.int .i64 X, .int .i64 Y, .int .i64 BW, .int .i64 BH] := by
      have h0 := Blk.new ((w).alloc (.cells #[.int .i64 W, .int .i64 H, .slice A an ac] 27)) 41 #[.int .i64 X, .int .i64 Y, .int .i64 BW, .int .i64 BH]
      simp only [World.size_alloc] at h0
      exact (h0.alloc _)
    have w23 : Blk w2 (w.heap.size + 1 + 1) 27 #[.int .i64 0, .int .i64 0, .slice none 0 0] := by
      have h0 := Blk.new (((w).alloc (.cells #[.int .i64 W, .int .i64 H, .slice A an ac] 27)).alloc (.cells #[.int .i64 X, .int .i64 Y, .int .i64 BW, .int .i64 BH] 41)) 27 #[.int .i64 0, .int .i64 0, .slice none 0 0]
      simp only [World.size_alloc] at h0
      exact h0
    have k1 := w21.all3
    have k2 := w22.all4
    go_enter Tryd.func161, Tryd.ntmps161
    go_wp2_with fail
    refine (checkBoth_any _ _ _ _ _ _ _ _ _ _).mono ?_
    rintro e w3 ⟨rfl, hb3⟩
    have k3 := (w23.bl hb3).all3
    go_wp2_with fail
    refine bodyPost_ret (v := .tuple #[.agg #[.int .i64 0, .int .i64 0, .slice none 0 0], .int .i64 (cutErr W H an X Y BW BH)]) (by simp [results, Tryd.results161, go_sem, k3]) rfl ⟨_, _, _, _, _, rfl, Res.zero _ _ _ _ _ He.out, ?_⟩
    exact ((((w2b.trans hb3).setCell (by simp; omega) _).setCell (by simp; omega) _).setCell (by simp; omega) _)

/-! ### Ink -/
end Go.Proofs.YtfngcokfigbhgaaDoor


/-! bedref2.CutOf. -/
namespace Go.Proofs.YtfngcokfigbhgaaDoor
open Go.RowKit

set_option maxRecDepth 100000 in
set_option maxHeartbeats 1000000 in
theorem cutOf1_any (p q W H X Y BW BH : Nat) (A : Option Addr) (ac : Nat) (bs : List Bool) (x y : Nat) (w : World) (hp : Blk w p 27 #[.int .i64 W, .int .i64 H, .slice A (W * H) ac]) (hq : Blk w q 41 #[.int .i64 X, .int .i64 Y, .int .i64 BW, .int .i64 BH])
    (hA : Reads w 1 A (W * H) (bs.map .bool)) (hW : W ≤ 4000) (hH : H ≤ 4000) (hx : x < BW) (hy : y < BH) (hX : X + BW ≤ W) (hY : Y + BH ≤ H) :
    Calls Tryd.prog 164 #[.int .i64 x, .int .i64 y, .pointer (some ⟨p, 0, none⟩), .pointer (some ⟨q, 0, none⟩)] w fun e w' => e = .returned (.bool (cutF bs W X Y x y)) ∧ Bl w w' := by
  have kp := hp.all3
  have kq := hq.all4
  have hat := at_any W H A ac bs ((X + x : Nat) : Int) ((Y + y : Nat) : Int) w hA hW hH
  rw [atI_in bs W H _ _ (by omega) (by omega)] at hat
  have e1 : ((X + x : Nat) : Int) = (X : Int) + (x : Int) := by simp
  have e2 : ((Y + y : Nat) : Int) = (Y : Int) + (y : Int) := by simp
  rw [e1, e2] at hat
  have Hat := Lib.hid hat
  clear hat hA e1 e2
  go_enter Tryd.func164, Tryd.ntmps164
  go_wp2_with fail
  refine Hat.out.mono ?_
  rintro e w1 ⟨rfl, hb1⟩
  go_wp2_with fail
  go_ret
  exact ⟨rfl, hb1⟩
set_option maxRecDepth 100000 in
set_option maxHeartbeats 1000000 in
theorem cutOf_any (W H X Y BW BH : Nat) (A : Option Addr) (ac : Nat) (bs : List Bool) (w : World) (hA : Reads w 1 A (W * H) (bs.map .bool)) (hW : W ≤ 4000) (hH : H ≤ 4000) (hX : X + BW ≤ W) (hY : Y + BH ≤ H) :
    Calls Tryd.prog 93 #[.agg #[.int .i64 W, .int .i64 H, .slice A (W * H) ac], .agg #[.int .i64 X, .int .i64 Y, .int .i64 BW, .int .i64 BH]] w fun e w' => ∃ R rc, e = .returned (.agg #[.int .i64 BW, .int .i64 BH, .slice R (BW * BH) rc]) ∧ Reads w' 1 R (BW * BH) ((grid BW BH (cutF bs W X Y)).map .bool) ∧ (∀ ad, R = some ad → w.heap.size + 3 ≤ ad.block) ∧ Bl w w' := by
  let w2 := (((w).alloc (.cells #[.int .i64 W, .int .i64 H, .slice A (W * H) ac] 27)).alloc (.cells #[.int .i64 X, .int .i64 Y, .int .i64 BW, .int .i64 BH] 41)).alloc (.cells #[.int .i64 0, .int .i64 0, .slice none 0 0] 27)
  have w2b : Bl w w2 := (((Bl.refl w).alloc _).alloc _).alloc _
  have w21 : Blk w2 (w.heap.size) 27 #[.int .i64 W, .int .i64 H, .slice A (W * H) ac] := by
    have h0 := Blk.new (w) 27 #[.int .i64 W, .int .i64 H, .slice A (W * H) ac]
    exact ((h0.alloc _).alloc _)
  have w22 : Blk w2 (w.heap.size + 1) 41 #[.int .i64 X, .int .i64 Y, .int .i64 BW, .int .i64 BH] := by
    have h0 := Blk.new ((w).alloc (.cells #[.int .i64 W, .int .i64 H, .slice A (W * H) ac] 27)) 41 #[.int .i64 X, .int .i64 Y, .int .i64 BW, .int .i64 BH]
    simp only [World.size_alloc] at h0
    exact (h0.alloc _)
  have w23 : Blk w2 (w.heap.size + 1 + 1) 27 #[.int .i64 0, .int .i64 0, .slice none 0 0] := by
    have h0 := Blk.new (((w).alloc (.cells #[.int .i64 W, .int .i64 H, .slice A (W * H) ac] 27)).alloc (.cells #[.int .i64 X, .int .i64 Y, .int .i64 BW, .int .i64 BH] 41)) 27 #[.int .i64 0, .int .i64 0, .slice none 0 0]
    simp only [World.size_alloc] at h0
    exact h0
  have hbd : BW * BH ≤ 16000000 := by have := Nat.mul_le_mul (show BW ≤ 4000 by omega) (show BH ≤ 4000 by omega); omega
  have hP : Paints Tryd.prog 164 #[.pointer (some ⟨w.heap.size, 0, none⟩), .pointer (some ⟨w.heap.size + 1, 0, none⟩)] Value.bool w2 BW BH (cutF bs W X Y) :=
    ⟨enters Tryd.func164 (by kernel_rfl) rfl, fun wy x y hb hx hy => cutOf1_any _ _ W H X Y BW BH A ac bs x y wy (w21.bl hb) (w22.bl hb) ((hA.bl w2b).bl hb) hW hH hx hy hX hY⟩
  have HP := Lib.hid hP
  clear hP hA
  have k2 := w22.all4
  go_enter Tryd.func93, Tryd.ntmps93
  go_wp2_with fail
  refine (Made_any BW BH _ _ _ _ (by omega) (by omega) (by omega) HP.out).mono ?_
  rintro e w6 ⟨r, rfl, hpg, hb6⟩
  have kr3 := (w23.bl hb6).all3
  have hsz3 := w23.lt
  have hle6 := w2b.trans hb6
  obtain ⟨R, rc, rfl, hR, hRn⟩ := hpg
  have hRn' : ∀ ad, R = some ad → w.heap.size + 3 ≤ ad.block := fun ad h => by have := hRn ad h; omega
  have HR := Lib.hid hR; have HRn := Lib.hid hRn'
  clear hR hRn hRn'
  go_wp2_with fail
  refine bodyPost_ret (v := .agg #[.int .i64 BW, .int .i64 BH, .slice R (BW * BH) rc]) (by simp [results, Tryd.results93, go_sem, kr3]) rfl ⟨R, rc, rfl, ?_, HRn.out, ?_⟩
  · exact ((HR.out.store HRn.out (by simp) _).store HRn.out (by simp) _).store HRn.out (by simp) _
  · exact (((hle6.setCell (by simp; omega) _).setCell (by simp; omega) _).setCell (by simp; omega) _)

end Go.Proofs.YtfngcokfigbhgaaDoor
