/- boxes in pages, Cut and Ink. -/
import Derived.Test.YtkhajhcfplicpaaDoorS4

namespace Go.Proofs.YtkhajhcfplicpaaDoor
open Go.RowKit

/-! ### boxes -/
def inPageB (X Y BW BH W H : Int) : Bool := decide (0 ≤ X ∧ X < W ∧ 0 ≤ Y ∧ Y < H ∧ 1 ≤ BW ∧ BW ≤ W - X ∧ 1 ≤ BH ∧ BH ≤ H - Y)
def inPageW (X Y BW BH W H : Int) : Bool := inB X 0 (wrap64 (W - 1)) && (inB Y 0 (wrap64 (H - 1)) && (inB BW 1 (wrap64 (W - X)) && inB BH 1 (wrap64 (H - Y))))
theorem inPageW_eq {X Y BW BH W H : Int} (hW : 1 ≤ W ∧ W ≤ 4000) (hH : 1 ≤ H ∧ H ≤ 4000) : inPageW X Y BW BH W H = inPageB X Y BW BH W H := by
  have e1 : wrap64 (W - 1) = W - 1 := by unfold wrap64; omega
  have e2 : wrap64 (H - 1) = H - 1 := by unfold wrap64; omega
  rw [Bool.eq_iff_iff]
  unfold inPageW inPageB
  simp only [e1, e2, Bool.and_eq_true, inB_true, decide_eq_true_eq]
  constructor
  · rintro ⟨h1, h2, h3, h4⟩
    have e3 : wrap64 (W - X) = W - X := by unfold wrap64; omega
    have e4 : wrap64 (H - Y) = H - Y := by unfold wrap64; omega
    rw [e3] at h3
    rw [e4] at h4
    omega
  · rintro ⟨h1, h2, h3, h4, h5⟩
    have e3 : wrap64 (W - X) = W - X := by unfold wrap64; omega
    have e4 : wrap64 (H - Y) = H - Y := by unfold wrap64; omega
    rw [e3, e4]
    omega

set_option maxHeartbeats 1000000 in
theorem inPageOf_any (X Y BW BH W H : Int) (w : World) :
    Calls Tryd.prog 31 #[.agg #[.int .i64 X, .int .i64 Y, .int .i64 BW, .int .i64 BH], .int .i64 W, .int .i64 H] w fun e w' => e = .returned (.bool (inPageW X Y BW BH W H)) ∧ Bl w w' := by
  unfold inPageW
  cases h1 : inB X 0 (wrap64 (W - 1))
  case false =>
    go_enter Tryd.func31, Tryd.ntmps31
    go_wp2_with (go_at_call 50; refine (in_any _ _ _ _).mono ?_; rintro e w' ⟨rfl, rfl⟩)
    go_ret
    exact ⟨rfl, (Bl.refl _).alloc _⟩
  case true =>
    cases h2 : inB Y 0 (wrap64 (H - 1))
    case false =>
      go_enter Tryd.func31, Tryd.ntmps31
      go_wp2_with (go_at_call 50; refine (in_any _ _ _ _).mono ?_; rintro e w' ⟨rfl, rfl⟩)
      go_ret
      exact ⟨rfl, (Bl.refl _).alloc _⟩
    case true =>
      cases h3 : inB BW 1 (wrap64 (W - X))
      case false =>
        go_enter Tryd.func31, Tryd.ntmps31
        go_wp2_with (go_at_call 50; refine (in_any _ _ _ _).mono ?_; rintro e w' ⟨rfl, rfl⟩)
        go_ret
        exact ⟨rfl, (Bl.refl _).alloc _⟩
      case true =>
        go_enter Tryd.func31, Tryd.ntmps31
        go_wp2_with (go_at_call 50; refine (in_any _ _ _ _).mono ?_; rintro e w' ⟨rfl, rfl⟩)
        go_ret
        exact ⟨by simp, (Bl.refl _).alloc _⟩

set_option maxRecDepth 100000 in
set_option maxHeartbeats 2000000 in
theorem inPage_any (X Y BW BH : Int) (W H : Nat) (w : World) (hW : 1 ≤ W ∧ W ≤ 4000) (hH : 1 ≤ H ∧ H ≤ 4000) :
    Calls Tryd.prog 131 #[.agg #[.int .i64 X, .int .i64 Y, .int .i64 BW, .int .i64 BH], .int .i64 W, .int .i64 H] w fun e w' => e = .returned (.int .i64 (whenI (!inPageB X Y BW BH W H) 13)) ∧ Bl w w' := by
  by_cases hall : 0 ≤ X ∧ X < W ∧ 0 ≤ Y ∧ Y < H ∧ 1 ≤ BW ∧ BW ≤ W - X ∧ 1 ≤ BH ∧ BH ≤ H - Y
  · have e : inPageB X Y BW BH W H = true := by unfold inPageB; exact decide_eq_true hall
    rw [e]
    clear e
    obtain ⟨c1, c2, c3, c4, c5, c6, c7, c8⟩ := hall
    go_enter Tryd.func131, Tryd.ntmps131
    go_wp2_with fail
    go_ret
    exact ⟨rfl, (Bl.refl _).alloc _⟩
  · have e : inPageB X Y BW BH W H = false := by unfold inPageB; exact decide_eq_false hall
    rw [e]
    clear e
    rcases (show BW < 1 ∨ (¬ BW < 1 ∧ BH < 1) ∨ (¬ BW < 1 ∧ ¬ BH < 1 ∧ X < 0) ∨ (¬ BW < 1 ∧ ¬ BH < 1 ∧ ¬ X < 0 ∧ Y < 0) ∨ (¬ BW < 1 ∧ ¬ BH < 1 ∧ ¬ X < 0 ∧ ¬ Y < 0 ∧ (W : Int) ≤ X) ∨ (¬ BW < 1 ∧ ¬ BH < 1 ∧ ¬ X < 0 ∧ ¬ Y < 0 ∧ ¬ (W : Int) ≤ X ∧ (H : Int) ≤ Y) ∨
      (¬ BW < 1 ∧ ¬ BH < 1 ∧ ¬ X < 0 ∧ ¬ Y < 0 ∧ ¬ (W : Int) ≤ X ∧ ¬ (H : Int) ≤ Y ∧ (W : Int) - X < BW) ∨ (¬ BW < 1 ∧ ¬ BH < 1 ∧ ¬ X < 0 ∧ ¬ Y < 0 ∧ ¬ (W : Int) ≤ X ∧ ¬ (H : Int) ≤ Y ∧ ¬ (W : Int) - X < BW ∧ (H : Int) - Y < BH) by omega) with
      c1 | ⟨c1, c2⟩ | ⟨c1, c2, c3⟩ | ⟨c1, c2, c3, c4⟩ | ⟨c1, c2, c3, c4, c5⟩ | ⟨c1, c2, c3, c4, c5, c6⟩ | ⟨c1, c2, c3, c4, c5, c6, c7⟩ | ⟨c1, c2, c3, c4, c5, c6, c7, c8⟩
    all_goals
      clear hall
      go_enter Tryd.func131, Tryd.ntmps131
      go_wp2_with fail
      go_ret
      exact ⟨rfl, (Bl.refl _).alloc _⟩

def cutErr (W H : Int) (n : Nat) (X Y BW BH : Int) : Int := firstNZ [pageErr W H n, whenI (!inPageB X Y BW BH W H) 13]
theorem cutErr_zero {W H : Int} {n : Nat} {X Y BW BH : Int} (h : cutErr W H n X Y BW BH = 0) : pageErr W H n = 0 ∧ 0 ≤ X ∧ X < W ∧ 0 ≤ Y ∧ Y < H ∧ 1 ≤ BW ∧ BW ≤ W - X ∧ 1 ≤ BH ∧ BH ≤ H - Y := by
  unfold cutErr firstNZ at h
  split at h
  · rename_i h0
    refine ⟨h0, ?_⟩
    cases hi : inPageB X Y BW BH W H
    · rw [hi] at h; simp [firstNZ, whenI] at h
    · exact of_decide_eq_true hi
  · contradiction
set_option maxRecDepth 100000 in
set_option maxHeartbeats 1000000 in
theorem checkBoth_any (W H : Int) (A : Option Addr) (an ac : Nat) (X Y BW BH : Int) (w : World) :
    Calls Tryd.prog 125 #[.agg #[.int .i64 W, .int .i64 H, .slice A an ac], .agg #[.int .i64 X, .int .i64 Y, .int .i64 BW, .int .i64 BH]] w fun e w' => e = .returned (.int .i64 (cutErr W H an X Y BW BH)) ∧ Bl w w' := by
  let w2 := ((w).alloc (.cells #[.int .i64 W, .int .i64 H, .slice A an ac] 24)).alloc (.cells #[.int .i64 X, .int .i64 Y, .int .i64 BW, .int .i64 BH] 29)
  have w2b : Bl w w2 := ((Bl.refl w).alloc _).alloc _
  have w21 : Blk w2 (w.heap.size) 24 #[.int .i64 W, .int .i64 H, .slice A an ac] := by
    have h0 := Blk.new (w) 24 #[.int .i64 W, .int .i64 H, .slice A an ac]
    exact (h0.alloc _)
  have w22 : Blk w2 (w.heap.size + 1) 29 #[.int .i64 X, .int .i64 Y, .int .i64 BW, .int .i64 BH] := by
    have h0 := Blk.new ((w).alloc (.cells #[.int .i64 W, .int .i64 H, .slice A an ac] 24)) 29 #[.int .i64 X, .int .i64 Y, .int .i64 BW, .int .i64 BH]
    simp only [World.size_alloc] at h0
    exact h0
  have k1 := w21.all3
  by_cases hp : pageErr W H an = 0
  · have e : cutErr W H an X Y BW BH = whenI (!inPageB X Y BW BH W H) 13 := by
      unfold cutErr
      simp only [firstNZ, if_pos hp]
      split <;> simp_all
    rw [e]
    clear e
    have hz := sizeErr_zero (pageErr_zero hp).1
    obtain ⟨W, H, rfl, rfl, rfl, u1, u2, u3⟩ := page_nat hp
    have hW : 1 ≤ W ∧ W ≤ 4000 := by omega
    have hH : 1 ≤ H ∧ H ≤ 4000 := by omega
    clear hz
    go_enter Tryd.func125, Tryd.ntmps125
    go_wp2_with fail
    refine (checkBits_any _ _ _ _ _ _).mono ?_
    rintro e w3 ⟨rfl, hb3⟩
    have k3 := (w21.bl hb3).all3
    have k4 := (w22.bl hb3).all4
    clear k1
    go_wp2_with fail
    refine (inPage_any X Y BW BH W H _ hW hH).mono ?_
    rintro e w4 ⟨rfl, hb4⟩
    go_wp2_with fail
    go_ret
    exact ⟨rfl, (w2b.trans hb3).trans hb4⟩
  · have e : cutErr W H an X Y BW BH = pageErr W H an := by unfold cutErr; simp only [firstNZ, if_neg hp]
    have hq : (pageErr W H an != 0) = true := by simp [hp]
    rw [e]
    clear e hp
    go_enter Tryd.func125, Tryd.ntmps125
    go_wp2_with fail
    refine (checkBits_any _ _ _ _ _ _).mono ?_
    rintro e w3 ⟨rfl, hb3⟩
    go_wp2_with fail
    go_ret
    exact ⟨rfl, w2b.trans hb3⟩

/-! ### Cut -/
def cutF (bs : List Bool) (W X Y x y : Nat) : Bool := pix bs W (X + x) (Y + y)
set_option maxRecDepth 100000 in
set_option maxHeartbeats 1000000 in
theorem cut1_any (p q W H X Y BW BH : Nat) (A : Option Addr) (ac : Nat) (bs : List Bool) (x y : Nat) (w : World) (hp : Blk w p 24 #[.int .i64 W, .int .i64 H, .slice A (W * H) ac]) (hq : Blk w q 29 #[.int .i64 X, .int .i64 Y, .int .i64 BW, .int .i64 BH])
    (hA : Reads w 1 A (W * H) (bs.map .bool)) (hW : W ≤ 4000) (hH : H ≤ 4000) (hx : x < BW) (hy : y < BH) (hX : X + BW ≤ W) (hY : Y + BH ≤ H) :
    Calls Tryd.prog 127 #[.int .i64 x, .int .i64 y, .pointer (some ⟨p, 0, none⟩), .pointer (some ⟨q, 0, none⟩)] w fun e w' => e = .returned (.bool (cutF bs W X Y x y)) ∧ Bl w w' := by
  have kp := hp.all3
  have kq := hq.all4
  have lx : X + x < W := by omega
  have ly : Y + y < H := by omega
  obtain ⟨ad, rfl, hc⟩ := hA.place lx ly
  have hk := place_lt lx ly
  obtain ⟨k, hkk⟩ : ∃ k, k = (Y + y) * W + (X + x) := ⟨_, rfl⟩
  rw [← hkk] at hc hk
  have f0 := Int.natCast_mul (Y + y) W
  have f1 : ((Y : Int) + (y : Int)) * (W : Int) + (X : Int) + (x : Int) = (k : Int) := by rw [hkk]; push_cast; omega
  have f2 : (k : Int) < (W : Int) * (H : Int) := by have := Int.natCast_mul W H; omega
  have f3 : (0 : Int) ≤ ((Y : Int) + (y : Int)) * (W : Int) ∧ ((Y : Int) + (y : Int)) * (W : Int) ≤ 16000000 := by
    have := Nat.mul_le_mul (show Y + y ≤ 4000 by omega) hW
    push_cast at f0
    omega
  unfold cutF
  obtain ⟨v, hv⟩ : ∃ v, v = pix bs W (X + x) (Y + y) := ⟨_, rfl⟩
  rw [← hv] at hc ⊢
  have Hkk := Lib.hid hkk
  clear hv hkk hA f0
  go_enter Tryd.func127, Tryd.ntmps127
  go_wp2_with fail
  go_ret
  exact ⟨rfl, by first | exact Bl.refl _ | exact (Bl.refl _).drew⟩
set_option maxRecDepth 100000 in
set_option maxHeartbeats 2000000 in
theorem cut_any (W H : Int) (A : Option Addr) (an ac : Nat) (bs : List Bool) (X Y BW BH : Int) (w : World) (hA : Reads w 1 A an (bs.map .bool)) :
    Calls Tryd.prog 27 #[.agg #[.int .i64 W, .int .i64 H, .slice A an ac], .agg #[.int .i64 X, .int .i64 Y, .int .i64 BW, .int .i64 BH]] w fun e w' => ∃ a b R m d, e = .returned (.tuple #[.agg #[.int .i64 a, .int .i64 b, .slice R m d], .int .i64 (cutErr W H an X Y BW BH)]) ∧
      Res w.heap.size w' (cutErr W H an X Y BW BH) BW.toNat BH.toNat ((grid BW.toNat BH.toNat (cutF bs W.toNat X.toNat Y.toNat)).map .bool) a b R m d ∧ Bl w w' := by
  by_cases he : cutErr W H an X Y BW BH = 0
  · obtain ⟨hp, c1, c2, c3, c4, c5, c6, c7, c8⟩ := cutErr_zero he
    obtain ⟨W, H, rfl, rfl, rfl, u1, u2, u3⟩ := page_nat hp
    obtain ⟨X, rfl⟩ := Int.eq_ofNat_of_zero_le c1
    obtain ⟨Y, rfl⟩ := Int.eq_ofNat_of_zero_le c3
    obtain ⟨BW, rfl⟩ := Int.eq_ofNat_of_zero_le (show 0 ≤ BW by omega)
    obtain ⟨BH, rfl⟩ := Int.eq_ofNat_of_zero_le (show 0 ≤ BH by omega)
    have hX : X + BW ≤ W := by omega
    have hY : Y + BH ≤ H := by omega
    have hsz : BW * BH ≤ 1048576 := Nat.le_trans (Nat.mul_le_mul (show BW ≤ W by omega) (show BH ≤ H by omega)) u3
    simp only [Int.toNat_natCast]
    clear c1 c2 c3 c4 c5 c6 c7 c8 hp
    let w2 := (((w).alloc (.cells #[.int .i64 W, .int .i64 H, .slice A (W * H) ac] 24)).alloc (.cells #[.int .i64 X, .int .i64 Y, .int .i64 BW, .int .i64 BH] 29)).alloc (.cells #[.int .i64 0, .int .i64 0, .slice none 0 0] 24)
    have w2b : Bl w w2 := (((Bl.refl w).alloc _).alloc _).alloc _
    have w21 : Blk w2 (w.heap.size) 24 #[.int .i64 W, .int .i64 H, .slice A (W * H) ac] := by
      have h0 := Blk.new (w) 24 #[.int .i64 W, .int .i64 H, .slice A (W * H) ac]
      exact ((h0.alloc _).alloc _)
    have w22 : Blk w2 (w.heap.size + 1) 29 #[.int .i64 X, .int .i64 Y, .int .i64 BW, .int .i64 BH] := by
      have h0 := Blk.new ((w).alloc (.cells #[.int .i64 W, .int .i64 H, .slice A (W * H) ac] 24)) 29 #[.int .i64 X, .int .i64 Y, .int .i64 BW, .int .i64 BH]
      simp only [World.size_alloc] at h0
      exact (h0.alloc _)
    have w23 : Blk w2 (w.heap.size + 1 + 1) 24 #[.int .i64 0, .int .i64 0, .slice none 0 0] := by
      have h0 := Blk.new (((w).alloc (.cells #[.int .i64 W, .int .i64 H, .slice A (W * H) ac] 24)).alloc (.cells #[.int .i64 X, .int .i64 Y, .int .i64 BW, .int .i64 BH] 29)) 24 #[.int .i64 0, .int .i64 0, .slice none 0 0]
      simp only [World.size_alloc] at h0
      exact h0
    have k1 := w21.all3
    have k2 := w22.all4
    have hA2 := hA.bl w2b
    have HA := Lib.hid hA2
    clear hA hA2
    go_enter Tryd.func27, Tryd.ntmps27
    go_wp2_with fail
    refine (checkBoth_any _ _ _ _ _ _ _ _ _ _).mono ?_
    rintro e w3 ⟨rfl, hb3⟩
    have k1 := (w21.bl hb3).all3
    have k2 := (w22.bl hb3).all4
    have hle := w2b.trans hb3
    have hP : Paints Tryd.prog 127 #[.pointer (some ⟨w.heap.size, 0, none⟩), .pointer (some ⟨w.heap.size + 1, 0, none⟩)] Value.bool w3 BW BH (cutF bs W X Y) :=
      ⟨enters Tryd.func127 (by kernel_rfl) rfl, fun wx x y hb hx hy => cut1_any _ _ W H X Y BW BH A ac bs x y wx ((w21.bl hb3).bl hb) ((w22.bl hb3).bl hb) ((HA.out.bl hb3).bl hb) u1 u2 hx hy hX hY⟩
    have HP := Lib.hid hP
    clear hP
    go_wp2_with fail
    refine (made_any BW BH _ _ _ _ (by omega) (by omega) hsz HP.out).mono ?_
    rintro e w6 ⟨r, rfl, hpg, hb6⟩
    have k3 := (w23.bl (hb3.trans hb6)).all3
    have hle6 := hle.trans hb6
    have hsz3 := (w23.bl hb3).lt
    obtain ⟨R, rc, rfl, hR, hRn⟩ := hpg
    have hRn' : ∀ ad, R = some ad → w.heap.size + 3 ≤ ad.block := fun ad h => by have := hRn ad h; omega
    have HR := Lib.hid hR; have HRn := Lib.hid hRn'
    clear hR hRn hRn'
    go_wp2_with fail
    refine bodyPost_ret (v := .tuple #[.agg #[.int .i64 BW, .int .i64 BH, .slice R (BW * BH) rc], .int .i64 0]) (by simp [results, Tryd.results27, go_sem, k3]) rfl ⟨_, _, R, _, rc, by rw [he], Res.page he ?_ (fun ad h => by have := HRn.out ad h; omega), ?_⟩
    · exact ((HR.out.store HRn.out (by simp) _).store HRn.out (by simp) _).store HRn.out (by simp) _
    · exact (((hle6.setCell (by simp; omega) _).setCell (by simp; omega) _).setCell (by simp; omega) _)
  · have hq : (cutErr W H an X Y BW BH != 0) = true := by simp [he]
    have He := Lib.hid he
    clear he hA
    let w2 := (((w).alloc (.cells #[.int .i64 W, .int .i64 H, .slice A an ac] 24)).alloc (.cells #[.int .i64 X, .int .i64 Y, .int .i64 BW, .int .i64 BH] 29)).alloc (.cells #[.int .i64 0, .int .i64 0, .slice none 0 0] 24)
    have w2b : Bl w w2 := (((Bl.refl w).alloc _).alloc _).alloc _
    have w21 : Blk w2 (w.heap.size) 24 #[.int .i64 W, .int .i64 H, .slice A an ac] := by
      have h0 := Blk.new (w) 24 #[.int .i64 W, .int .i64 H, .slice A an ac]
      exact ((h0.alloc _).alloc _)
    have w22 : Blk w2 (w.heap.size + 1) 29 #[.int .i64 X, .int .i64 Y, .int .i64 BW, .int .i64 BH] := by
      have h0 := Blk.new ((w).alloc (.cells #[.int .i64 W, .int .i64 H, .slice A an ac] 24)) 29 #[.int .i64 X, .int .i64 Y, .int .i64 BW, .int .i64 BH]
      simp only [World.size_alloc] at h0
      exact (h0.alloc _)
    have w23 : Blk w2 (w.heap.size + 1 + 1) 24 #[.int .i64 0, .int .i64 0, .slice none 0 0] := by
      have h0 := Blk.new (((w).alloc (.cells #[.int .i64 W, .int .i64 H, .slice A an ac] 24)).alloc (.cells #[.int .i64 X, .int .i64 Y, .int .i64 BW, .int .i64 BH] 29)) 24 #[.int .i64 0, .int .i64 0, .slice none 0 0]
      simp only [World.size_alloc] at h0
      exact h0
    have k1 := w21.all3
    have k2 := w22.all4
    go_enter Tryd.func27, Tryd.ntmps27
    go_wp2_with fail
    refine (checkBoth_any _ _ _ _ _ _ _ _ _ _).mono ?_
    rintro e w3 ⟨rfl, hb3⟩
    have k3 := (w23.bl hb3).all3
    go_wp2_with fail
    refine bodyPost_ret (v := .tuple #[.agg #[.int .i64 0, .int .i64 0, .slice none 0 0], .int .i64 (cutErr W H an X Y BW BH)]) (by simp [results, Tryd.results27, go_sem, k3]) rfl ⟨_, _, _, _, _, rfl, Res.zero _ _ _ _ _ He.out, ?_⟩
    exact ((((w2b.trans hb3).setCell (by simp; omega) _).setCell (by simp; omega) _).setCell (by simp; omega) _)

/-! ### Ink -/
end Go.Proofs.YtkhajhcfplicpaaDoor
