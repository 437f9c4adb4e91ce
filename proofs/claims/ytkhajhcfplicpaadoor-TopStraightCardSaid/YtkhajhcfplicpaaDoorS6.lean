/- page.CutGray, slices.Contains of bools, page.Blank whatever comes. -/
import Derived.Test.YtkhajhcfplicpaaDoorS5
import Derived.Test.YtkhajhcfplicpaaDoorS2

namespace Go.Proofs.YtkhajhcfplicpaaDoor
open Go.RowKit

theorem Reads.gval {w : World} {A : Option Addr} {n i : Nat} {zs : List Int} (h : Reads w 1 A n (zs.map (.int .u8))) (hi : i < n) : ∃ ad, A = some ad ∧ w.cell? (ad.add i) = some (.int .u8 (valOf zs i)) := by
  obtain ⟨ad, ua, eA, hu, hca⟩ := h.at_ hi
  have hl : zs.length = n := by have := h.1; simpa using this
  have hua : ua = .int .u8 (valOf zs i) := by simpa [valOf, List.getD, hl, hi] using hu.symm
  exact ⟨ad, eA, by rw [hca, hua]⟩
def cutGF (zs : List Int) (W X Y x y : Nat) : Int := vix zs W (X + x) (Y + y)
set_option maxRecDepth 100000 in
set_option maxHeartbeats 1000000 in
theorem cutGray1_any (p q W H X Y BW BH : Nat) (A : Option Addr) (ac : Nat) (zs : List Int) (x y : Nat) (w : World) (hp : Blk w p 27 #[.int .i64 W, .int .i64 H, .slice A (W * H) ac]) (hq : Blk w q 29 #[.int .i64 X, .int .i64 Y, .int .i64 BW, .int .i64 BH])
    (hA : Reads w 1 A (W * H) (zs.map (.int .u8))) (hW : W ≤ 4000) (hH : H ≤ 4000) (hx : x < BW) (hy : y < BH) (hX : X + BW ≤ W) (hY : Y + BH ≤ H) :
    Calls Tryd.prog 133 #[.int .i64 x, .int .i64 y, .pointer (some ⟨p, 0, none⟩), .pointer (some ⟨q, 0, none⟩)] w fun e w' => e = .returned (.int .u8 (cutGF zs W X Y x y)) ∧ Bl w w' := by
  have kp := hp.all3
  have kq := hq.all4
  have lx : X + x < W := by omega
  have ly : Y + y < H := by omega
  have hk := place_lt lx ly
  obtain ⟨ad, rfl, hc⟩ := hA.gval hk
  unfold cutGF vix
  obtain ⟨k, hkk⟩ : ∃ k, k = (Y + y) * W + (X + x) := ⟨_, rfl⟩
  rw [← hkk] at hc hk ⊢
  have f0 := Int.natCast_mul (Y + y) W
  have f1 : ((Y : Int) + (y : Int)) * (W : Int) + (X : Int) + (x : Int) = (k : Int) := by rw [hkk]; push_cast; omega
  have f2 : (k : Int) < (W : Int) * (H : Int) := by have := Int.natCast_mul W H; omega
  have f3 : (0 : Int) ≤ ((Y : Int) + (y : Int)) * (W : Int) ∧ ((Y : Int) + (y : Int)) * (W : Int) ≤ 16000000 := by
    have := Nat.mul_le_mul (show Y + y ≤ 4000 by omega) hW
    push_cast at f0
    omega
  obtain ⟨v, hv⟩ : ∃ v, v = valOf zs k := ⟨_, rfl⟩
  rw [← hv] at hc ⊢
  have Hkk := Lib.hid hkk
  clear hv hkk hA f0
  go_enter Tryd.func133, Tryd.ntmps133
  go_wp2_with fail
  go_ret
  exact ⟨rfl, by first | exact Bl.refl _ | exact (Bl.refl _).drew⟩
set_option maxRecDepth 100000 in
set_option maxHeartbeats 1000000 in
theorem cuts2_any (p q W H X Y BW BH : Nat) (A : Option Addr) (ac : Nat) (zs : List Int) (x y : Nat) (w : World) (hp : Blk w p 27 #[.int .i64 W, .int .i64 H, .slice A (W * H) ac]) (hq : Blk w q 29 #[.int .i64 X, .int .i64 Y, .int .i64 BW, .int .i64 BH])
    (hA : Reads w 1 A (W * H) (zs.map (.int .u8))) (hW : W ≤ 4000) (hH : H ≤ 4000) (hx : x < BW) (hy : y < BH) (hX : X + BW ≤ W) (hY : Y + BH ≤ H) :
    Calls Tryd.prog 38 #[.int .i64 x, .int .i64 y, .pointer (some ⟨p, 0, none⟩), .pointer (some ⟨q, 0, none⟩)] w fun e w' => e = .returned (.int .u8 (cutGF zs W X Y x y)) ∧ Bl w w' := by
  have kp := hp.all3
  have kq := hq.all4
  have lx : X + x < W := by omega
  have ly : Y + y < H := by omega
  have hk := place_lt lx ly
  obtain ⟨ad, rfl, hc⟩ := hA.gval hk
  unfold cutGF vix
  obtain ⟨k, hkk⟩ : ∃ k, k = (Y + y) * W + (X + x) := ⟨_, rfl⟩
  rw [← hkk] at hc hk ⊢
  have f0 := Int.natCast_mul (Y + y) W
  have f1 : ((Y : Int) + (y : Int)) * (W : Int) + (X : Int) + (x : Int) = (k : Int) := by rw [hkk]; push_cast; omega
  have f2 : (k : Int) < (W : Int) * (H : Int) := by have := Int.natCast_mul W H; omega
  have f3 : (0 : Int) ≤ ((Y : Int) + (y : Int)) * (W : Int) ∧ ((Y : Int) + (y : Int)) * (W : Int) ≤ 16000000 := by
    have := Nat.mul_le_mul (show Y + y ≤ 4000 by omega) hW
    push_cast at f0
    omega
  obtain ⟨v, hv⟩ : ∃ v, v = valOf zs k := ⟨_, rfl⟩
  rw [← hv] at hc ⊢
  have Hkk := Lib.hid hkk
  clear hv hkk hA f0
  go_enter Tryd.func38, Tryd.ntmps38
  go_wp2_with fail
  go_ret
  exact ⟨rfl, by first | exact Bl.refl _ | exact (Bl.refl _).drew⟩
set_option maxRecDepth 100000 in
set_option maxHeartbeats 2000000 in
theorem cutGray_any (W H : Int) (A : Option Addr) (an ac : Nat) (zs : List Int) (X Y BW BH : Int) (w : World) (hA : Reads w 1 A an (zs.map (.int .u8))) :
    Calls Tryd.prog 34 #[.agg #[.int .i64 W, .int .i64 H, .slice A an ac], .agg #[.int .i64 X, .int .i64 Y, .int .i64 BW, .int .i64 BH]] w fun e w' => ∃ a b R m d, e = .returned (.tuple #[.agg #[.int .i64 a, .int .i64 b, .slice R m d], .int .i64 (cutErr W H an X Y BW BH)]) ∧
      Res w.heap.size w' (cutErr W H an X Y BW BH) BW.toNat BH.toNat ((grid BW.toNat BH.toNat (cutGF zs W.toNat X.toNat Y.toNat)).map (.int .u8)) a b R m d ∧ Bl w w' := by
  by_cases he : cutErr W H an X Y BW BH = 0
  · obtain ⟨hp, c1, c2, c3, c4, c5, c6, c7, c8⟩ := cutErr_zero he
    have hz := sizeErr_zero (pageErr_zero hp).1
    have hq1 : (pageErr W H an != 0) = false := by simp [hp]
    have hib : inPageB X Y BW BH W H = true := by unfold inPageB; exact decide_eq_true ⟨c1, c2, c3, c4, c5, c6, c7, c8⟩
    obtain ⟨W, H, rfl, rfl, rfl, u1, u2, u3⟩ := page_nat hp
    have hW1 : 1 ≤ W ∧ W ≤ 4000 := by omega
    have hH1 : 1 ≤ H ∧ H ≤ 4000 := by omega
    obtain ⟨X, rfl⟩ := Int.eq_ofNat_of_zero_le c1
    obtain ⟨Y, rfl⟩ := Int.eq_ofNat_of_zero_le c3
    obtain ⟨BW, rfl⟩ := Int.eq_ofNat_of_zero_le (show 0 ≤ BW by omega)
    obtain ⟨BH, rfl⟩ := Int.eq_ofNat_of_zero_le (show 0 ≤ BH by omega)
    have hX : X + BW ≤ W := by omega
    have hY : Y + BH ≤ H := by omega
    have hsz : BW * BH ≤ 1048576 := Nat.le_trans (Nat.mul_le_mul (show BW ≤ W by omega) (show BH ≤ H by omega)) u3
    simp only [Int.toNat_natCast]
    have Hib := Lib.hid hib
    clear c1 c2 c3 c4 c5 c6 c7 c8 hp hz hib
    let w2 := (((w).alloc (.cells #[.int .i64 W, .int .i64 H, .slice A (W * H) ac] 27)).alloc (.cells #[.int .i64 X, .int .i64 Y, .int .i64 BW, .int .i64 BH] 29)).alloc (.cells #[.int .i64 0, .int .i64 0, .slice none 0 0] 27)
    have w2b : Bl w w2 := (((Bl.refl w).alloc _).alloc _).alloc _
    have w21 : Blk w2 (w.heap.size) 27 #[.int .i64 W, .int .i64 H, .slice A (W * H) ac] := by
      have h0 := Blk.new (w) 27 #[.int .i64 W, .int .i64 H, .slice A (W * H) ac]
      exact ((h0.alloc _).alloc _)
    have w22 : Blk w2 (w.heap.size + 1) 29 #[.int .i64 X, .int .i64 Y, .int .i64 BW, .int .i64 BH] := by
      have h0 := Blk.new ((w).alloc (.cells #[.int .i64 W, .int .i64 H, .slice A (W * H) ac] 27)) 29 #[.int .i64 X, .int .i64 Y, .int .i64 BW, .int .i64 BH]
      simp only [World.size_alloc] at h0
      exact (h0.alloc _)
    have w23 : Blk w2 (w.heap.size + 1 + 1) 27 #[.int .i64 0, .int .i64 0, .slice none 0 0] := by
      have h0 := Blk.new (((w).alloc (.cells #[.int .i64 W, .int .i64 H, .slice A (W * H) ac] 27)).alloc (.cells #[.int .i64 X, .int .i64 Y, .int .i64 BW, .int .i64 BH] 29)) 27 #[.int .i64 0, .int .i64 0, .slice none 0 0]
      simp only [World.size_alloc] at h0
      exact h0
    have k1 := w21.all3
    have k2 := w22.all4
    have hA2 := hA.bl w2b
    have HA := Lib.hid hA2
    clear hA hA2
    go_enter Tryd.func34, Tryd.ntmps34
    go_wp2_with fail
    refine (checkGray_any _ _ _ _ _ _).mono ?_
    rintro e w2' ⟨rfl, hb2'⟩
    have k1 := (w21.bl hb2').all3
    have k2 := (w22.bl hb2').all4
    go_wp2_with fail
    refine (inPage_any _ _ _ _ W H _ hW1 hH1).mono ?_
    rintro e w3 ⟨rfl, hb3'⟩
    rw [Hib.out]
    have hb3 := hb2'.trans hb3'
    have k1 := (w21.bl hb3).all3
    have k2 := (w22.bl hb3).all4
    have hle := w2b.trans hb3
    have hP : Paints Tryd.prog 133 #[.pointer (some ⟨w.heap.size, 0, none⟩), .pointer (some ⟨w.heap.size + 1, 0, none⟩)] (Value.int .u8) w3 BW BH (cutGF zs W X Y) :=
      ⟨enters Tryd.func133 (by kernel_rfl) rfl, fun wx x y hb hx hy => cutGray1_any _ _ W H X Y BW BH A ac zs x y wx ((w21.bl hb3).bl hb) ((w22.bl hb3).bl hb) ((HA.out.bl hb3).bl hb) u1 u2 hx hy hX hY⟩
    have HP := Lib.hid hP
    clear hP
    go_wp2_with fail
    refine (madeGray_any BW BH _ _ _ _ (by omega) (by omega) hsz HP.out).mono ?_
    rintro e w6 ⟨r, rfl, hpg, hb6⟩
    have k3 := (w23.bl (hb3.trans hb6)).all3
    have hle6 := hle.trans hb6
    have hsz3 := (w23.bl hb3).lt
    obtain ⟨R, rc, rfl, hR, hRn⟩ := hpg
    have hRn' : ∀ ad, R = some ad → w.heap.size + 3 ≤ ad.block := fun ad h => by have := hRn ad h; omega
    have HR := Lib.hid hR; have HRn := Lib.hid hRn'
    clear hR hRn hRn'
    go_wp2_with fail
    refine bodyPost_ret (v := .tuple #[.agg #[.int .i64 BW, .int .i64 BH, .slice R (BW * BH) rc], .int .i64 0]) (by simp [results, Tryd.results34, go_sem, k3]) rfl ⟨_, _, R, _, rc, by rw [he], Res.page he ?_ (fun ad h => by have := HRn.out ad h; omega), ?_⟩
    · exact ((HR.out.store HRn.out (by simp) _).store HRn.out (by simp) _).store HRn.out (by simp) _
    · exact (((hle6.setCell (by simp; omega) _).setCell (by simp; omega) _).setCell (by simp; omega) _)
  · have He := Lib.hid he
    let w2 := (((w).alloc (.cells #[.int .i64 W, .int .i64 H, .slice A an ac] 27)).alloc (.cells #[.int .i64 X, .int .i64 Y, .int .i64 BW, .int .i64 BH] 29)).alloc (.cells #[.int .i64 0, .int .i64 0, .slice none 0 0] 27)
    have w2b : Bl w w2 := (((Bl.refl w).alloc _).alloc _).alloc _
    have w21 : Blk w2 (w.heap.size) 27 #[.int .i64 W, .int .i64 H, .slice A an ac] := by
      have h0 := Blk.new (w) 27 #[.int .i64 W, .int .i64 H, .slice A an ac]
      exact ((h0.alloc _).alloc _)
    have w22 : Blk w2 (w.heap.size + 1) 29 #[.int .i64 X, .int .i64 Y, .int .i64 BW, .int .i64 BH] := by
      have h0 := Blk.new ((w).alloc (.cells #[.int .i64 W, .int .i64 H, .slice A an ac] 27)) 29 #[.int .i64 X, .int .i64 Y, .int .i64 BW, .int .i64 BH]
      simp only [World.size_alloc] at h0
      exact (h0.alloc _)
    have w23 : Blk w2 (w.heap.size + 1 + 1) 27 #[.int .i64 0, .int .i64 0, .slice none 0 0] := by
      have h0 := Blk.new (((w).alloc (.cells #[.int .i64 W, .int .i64 H, .slice A an ac] 27)).alloc (.cells #[.int .i64 X, .int .i64 Y, .int .i64 BW, .int .i64 BH] 29)) 27 #[.int .i64 0, .int .i64 0, .slice none 0 0]
      simp only [World.size_alloc] at h0
      exact h0
    have k1 := w21.all3
    have k2 := w22.all4
    clear hA
    by_cases hp : pageErr W H an = 0
    · have hq1 : (pageErr W H an != 0) = false := by simp [hp]
      have hz := sizeErr_zero (pageErr_zero hp).1
      have hce : cutErr W H an X Y BW BH = whenI (!inPageB X Y BW BH W H) 13 := by
        unfold cutErr
        simp only [firstNZ, if_pos hp]
        split <;> simp_all
      have hq2 : (whenI (!inPageB X Y BW BH W H) 13 != 0) = true := by rw [← hce]; simp [he]
      rw [hce]
      rw [hce] at He
      obtain ⟨W, H, rfl, rfl, rfl, u1, u2, u3⟩ := page_nat hp
      have hW1 : 1 ≤ W ∧ W ≤ 4000 := by omega
      have hH1 : 1 ≤ H ∧ H ≤ 4000 := by omega
      clear hp hz he hce
      go_enter Tryd.func34, Tryd.ntmps34
      go_wp2_with fail
      refine (checkGray_any _ _ _ _ _ _).mono ?_
      rintro e w2' ⟨rfl, hb2'⟩
      have k1 := (w21.bl hb2').all3
      have k2 := (w22.bl hb2').all4
      go_wp2_with fail
      refine (inPage_any _ _ _ _ W H _ hW1 hH1).mono ?_
      rintro e w3 ⟨rfl, hb3'⟩
      have hb3 := hb2'.trans hb3'
      have k3 := (w23.bl hb3).all3
      go_wp2_with fail
      refine bodyPost_ret (v := .tuple #[.agg #[.int .i64 0, .int .i64 0, .slice none 0 0], .int .i64 (whenI (!inPageB X Y BW BH W H) 13)]) (by simp [results, Tryd.results34, go_sem, k3]) rfl ⟨_, _, _, _, _, rfl, Res.zero _ _ _ _ _ He.out, ?_⟩
      exact ((((w2b.trans hb3).setCell (by simp; omega) _).setCell (by simp; omega) _).setCell (by simp; omega) _)
    · have hq1 : (pageErr W H an != 0) = true := by simp [hp]
      have hce : cutErr W H an X Y BW BH = pageErr W H an := by unfold cutErr; simp only [firstNZ, if_neg hp]
      rw [hce]
      rw [hce] at He
      clear hp he hce
      go_enter Tryd.func34, Tryd.ntmps34
      go_wp2_with fail
      refine (checkGray_any _ _ _ _ _ _).mono ?_
      rintro e w3 ⟨rfl, hb3⟩
      have k3 := (w23.bl hb3).all3
      go_wp2_with fail
      refine bodyPost_ret (v := .tuple #[.agg #[.int .i64 0, .int .i64 0, .slice none 0 0], .int .i64 (pageErr W H an)]) (by simp [results, Tryd.results34, go_sem, k3]) rfl ⟨_, _, _, _, _, rfl, Res.zero _ _ _ _ _ He.out, ?_⟩
      exact ((((w2b.trans hb3).setCell (by simp; omega) _).setCell (by simp; omega) _).setCell (by simp; omega) _)

/-! ### slices.Contains of bools -/
set_option maxHeartbeats 1000000 in
theorem indexB_any (A : Option Addr) (n c : Nat) (bs : List Bool) (v : Bool) (w : World) (hA : Reads w 1 A n (bs.map .bool)) (hn : n ≤ 1099511627776) :
    Calls Tryd.prog 124 #[.slice A n c, .bool v] w fun e w' => ∃ k : Int, e = .returned (.int .i64 k) ∧ (0 ≤ k ↔ v ∈ bs) ∧ w = w' := by
  have hl : bs.length = n := by have := hA.1; simpa using this
  have HA := Lib.hid hA; have HL := Lib.hid hl
  clear hA hl
  go_enter Tryd.func124, Tryd.ntmps124
  go_wp2_with fail
  go_loopw [8] (fun u wr => ∃ i : Nat, i ≤ n ∧ u = .int .i64 i ∧ w = wr ∧ ∀ j, j < i → bs[j]? ≠ some v) (fun u _ => n - (intOf u).toNat)
  case atStart => exact ⟨0, Nat.zero_le _, rfl, rfl, fun j hj => absurd hj (Nat.not_lt_zero _)⟩
  case round =>
    obtain ⟨i, hi, rfl, rfl, hno⟩ := hrel
    have Hno := Lib.hid hno
    clear hno
    by_cases hlt : i < n
    · obtain ⟨ad, u, rfl, hu, hc⟩ := HA.out.at_ hlt
      have hl2 : i < bs.length := by rw [HL.out]; exact hlt
      have hu' : u = .bool bs[i] := by simpa [hl2] using hu.symm
      have hg : bs[i]? = some bs[i] := List.getElem?_eq_getElem hl2
      subst hu'
      obtain ⟨b, hb⟩ : ∃ b, b = bs[i] := ⟨_, rfl⟩
      rw [← hb] at hc hg
      have Hg := Lib.hid hg
      clear hu hb hg hl2
      by_cases hbv : v = b
      · subst hbv
        have hq : (v == v) = true := by cases v <;> rfl
        have HX := Lib.hid (show 0 ≤ (i : Int) ↔ v ∈ bs from ⟨fun _ => List.mem_of_getElem? Hg.out, fun _ => Int.natCast_nonneg i⟩)
        cases v <;> (go_wp2_with fail; go_ret; exact ⟨_, rfl, HX.out, rfl⟩)
      · have HY : Hid (∀ j, j < i + 1 → bs[j]? ≠ some v) := fun j hj => by
          rcases Nat.lt_succ_iff_lt_or_eq.1 hj with h | rfl
          · exact Hno.out j h
          · rw [Hg.out]; intro e; exact hbv (Option.some.inj e).symm
        cases v <;> cases b <;> first | exact absurd rfl hbv | (clear hbv; go_wp2_with fail; exact ⟨⟨i + 1, hlt, by go_num, by first | rfl | trivial, HY.out⟩, by simp [intOf]; omega⟩)
    · have HX := Lib.hid (show (0 : Int) ≤ -1 ↔ v ∈ bs from ⟨fun h => absurd h (by decide), fun h => by
        obtain ⟨j, hj⟩ := List.getElem?_of_mem h
        have := (List.getElem?_eq_some_iff.1 hj).1
        exact absurd hj (Hno.out j (by have := HL.out; omega))⟩)
      go_wp2_with fail
      go_ret
      exact ⟨_, rfl, HX.out, rfl⟩
set_option maxHeartbeats 1000000 in
theorem containsB_any (A : Option Addr) (n c : Nat) (bs : List Bool) (v : Bool) (w : World) (hA : Reads w 1 A n (bs.map .bool)) (hn : n ≤ 1099511627776) :
    Calls Tryd.prog 26 #[.slice A n c, .bool v] w fun e w' => e = .returned (.bool (decide (v ∈ bs))) ∧ w = w' := by
  go_enter Tryd.func26, Tryd.ntmps26
  go_wp2_with fail
  refine (indexB_any A n c bs v w hA hn).mono ?_
  rintro e w1 ⟨k, rfl, hk, rfl⟩
  have Hk := Lib.hid hk
  clear hk hA
  go_wp2_with fail
  go_ret
  exact ⟨ret_bool (decide_eq_decide.2 Hk.out), rfl⟩

/-! ### page.Blank -/
theorem blank_any (W H : Int) (w : World) :
    Calls Tryd.prog 18 #[.int .i64 W, .int .i64 H] w fun e w' => ∃ a b R m d, e = .returned (.tuple #[.agg #[.int .i64 a, .int .i64 b, .slice R m d], .int .i64 (sizeErr W H)]) ∧
      (sizeErr W H ≠ 0 → a = 0 ∧ b = 0 ∧ R = none ∧ m = 0 ∧ d = 0) ∧ (sizeErr W H = 0 → a = W ∧ b = H ∧ (m : Int) = W * H ∧ Reads w' 1 R m ((List.replicate m false).map .bool)) ∧ Bl w w' := by
  by_cases he : sizeErr W H = 0
  · have hz := sizeErr_zero he
    obtain ⟨W, rfl⟩ := Int.eq_ofNat_of_zero_le (show 0 ≤ W by omega)
    obtain ⟨H, rfl⟩ := Int.eq_ofNat_of_zero_le (show 0 ≤ H by omega)
    refine (blank_ok W H w he).mono ?_
    rintro e w' ⟨g, rfl, hg, hb⟩
    refine ⟨W, H, some ⟨g, 0, none⟩, W * H, W * H, by rw [he], fun h => absurd he h, fun _ => ⟨rfl, rfl, by simp, ?_⟩, hb⟩
    have := hg.reads (W * H) 1 (by simp)
    simpa using this
  · refine (blank_bad W H w he).mono ?_
    rintro e w' ⟨rfl, hb⟩
    exact ⟨0, 0, none, 0, 0, rfl, fun _ => ⟨rfl, rfl, rfl, rfl, rfl⟩, fun h => absurd h he, hb⟩

end Go.Proofs.YtkhajhcfplicpaaDoor
