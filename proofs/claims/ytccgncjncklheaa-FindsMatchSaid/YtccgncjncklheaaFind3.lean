/- Box, Find, FindSlant, Straight, Upright; FindOf, FindSlantOf. -/
import Derived.Test.YtccgncjncklheaaFind1
import Derived.Test.YtccgncjncklheaaFind2
import Derived.Test.YtccgncjncklheaaLean
namespace Go.Proofs.Ytccgncjncklheaa
open Go.RowKit

/-! ### Box -/
set_option maxRecDepth 100000 in
set_option maxHeartbeats 1000000 in
theorem box_any (W H : Int) (A : Option Addr) (an ac : Nat) (bs : List Bool) (w : World) (hA : Reads w 1 A an (bs.map .bool)) :
    Calls Try.prog 80 #[.agg #[.int .i64 W, .int .i64 H, .slice A an ac]] w fun e w' => ∃ (X Y BW BH : Int) (is : Bool), e = .returned (.tuple #[.agg #[.int .i64 X, .int .i64 Y, .int .i64 BW, .int .i64 BH], .bool is]) ∧ (pageErr W H an = 0 → is = inkB bs an) ∧ Bl w w' := by
  let w2 := ((w).alloc (.cells #[.int .i64 W, .int .i64 H, .slice A an ac] 39)).alloc (.cells #[.int .i64 0, .int .i64 0, .int .i64 0, .int .i64 0] 78)
  have w2b : Bl w w2 := ((Bl.refl w).alloc _).alloc _
  have w21 : Blk w2 (w.heap.size) 39 #[.int .i64 W, .int .i64 H, .slice A an ac] := by
    have h0 := Blk.new (w) 39 #[.int .i64 W, .int .i64 H, .slice A an ac]
    exact (h0.alloc _)
  have w22 : Blk w2 (w.heap.size + 1) 78 #[.int .i64 0, .int .i64 0, .int .i64 0, .int .i64 0] := by
    have h0 := Blk.new ((w).alloc (.cells #[.int .i64 W, .int .i64 H, .slice A an ac] 39)) 78 #[.int .i64 0, .int .i64 0, .int .i64 0, .int .i64 0]
    simp only [World.size_alloc] at h0
    exact h0
  have k1 := w21.all3
  have HA := Lib.hid (hA.bl w2b)
  clear hA
  by_cases hp : pageErr W H an = 0
  · obtain ⟨W, H, rfl, rfl, rfl, u1, u2, u3⟩ := page_nat hp
    have hq : (pageErr W H (W * H) != 0) = false := by simp [hp]
    have Hp := Lib.hid hp
    clear hp
    go_enter Try.func80, Try.ntmps80
    go_wp2_with fail
    refine (bitsError_any _ _ _ _ _ _).mono ?_
    rintro e w3 ⟨rfl, hb3⟩
    have k3 := (w21.bl hb3).all3
    clear k1
    go_wp2_with fail
    refine (boundsOf_any W H A ac bs _ (HA.out.bl hb3) u1 u2).mono ?_
    rintro e w4 ⟨X, Y, BW, BH, is, rfl, hbi, hb4⟩
    have k2 := (w22.bl (hb3.trans hb4)).all4
    have hle := w2b.trans (hb3.trans hb4)
    have Hi := Lib.hid (inkB_is hbi)
    clear hbi k3
    go_wp2_with fail
    refine bodyPost_ret (v := .tuple #[.agg #[.int .i64 X, .int .i64 Y, .int .i64 BW, .int .i64 BH], .bool is]) (by simp [results, Try.results80, go_sem, k2]) rfl ?_
    have hfin := ((((hle.setCell (p := ⟨w.heap.size + 1, 0, none⟩) (by simp) (.int .i64 X)).setCell (p := ⟨w.heap.size + 1, 1, none⟩) (by simp) (.int .i64 Y)).setCell (p := ⟨w.heap.size + 1, 2, none⟩) (by simp) (.int .i64 BW)).setCell (p := ⟨w.heap.size + 1, 3, none⟩) (by simp) (.int .i64 BH))
    refine ⟨X, Y, BW, BH, ?_⟩
    cases is
    · first | exact ⟨false, rfl, fun _ => Hi.out, hfin⟩ | exact Or.inl ⟨rfl, fun _ => Hi.out, hfin⟩ | (simp; exact ⟨fun _ => Hi.out, hfin⟩)
    · first | exact ⟨true, rfl, fun _ => Hi.out, hfin⟩ | exact Or.inr ⟨rfl, fun _ => Hi.out, hfin⟩ | (simp; exact ⟨fun _ => Hi.out, hfin⟩)
  · have hq : (pageErr W H an != 0) = true := by simp [hp]
    have Hp := Lib.hid hp
    clear hp
    go_enter Try.func80, Try.ntmps80
    go_wp2_with fail
    refine (bitsError_any _ _ _ _ _ _).mono ?_
    rintro e w3 ⟨rfl, hb3⟩
    have k2 := (w22.bl hb3).all4
    have hle := w2b.trans hb3
    go_wp2_with fail
    refine bodyPost_ret (v := .tuple #[.agg #[.int .i64 0, .int .i64 0, .int .i64 0, .int .i64 0], .bool false]) (by simp [results, Try.results80, go_sem, k2]) rfl ?_
    have hfin := ((((hle.setCell (p := ⟨w.heap.size + 1, 0, none⟩) (by simp) (.int .i64 0)).setCell (p := ⟨w.heap.size + 1, 1, none⟩) (by simp) (.int .i64 0)).setCell (p := ⟨w.heap.size + 1, 2, none⟩) (by simp) (.int .i64 0)).setCell (p := ⟨w.heap.size + 1, 3, none⟩) (by simp) (.int .i64 0))
    refine ⟨0, 0, 0, 0, ?_⟩
    first | exact ⟨false, rfl, fun h => absurd h Hp.out, hfin⟩ | exact Or.inl ⟨rfl, fun h => absurd h Hp.out, hfin⟩

/-! ### Find and FindSlant -/

set_option maxRecDepth 100000 in
set_option maxHeartbeats 1000000 in
theorem find_any (W H : Int) (A : Option Addr) (an ac : Nat) (bs : List Bool) (most : Int) (w : World) (hA : Reads w 1 A an (bs.map .bool)) :
    Calls Try.prog 81 #[.agg #[.int .i64 W, .int .i64 H, .slice A an ac], .int .i64 most] w fun e w' => ∃ n : Int, e = .returned (.tuple #[.int .i64 n, .int .i64 (findErr W H an most (inkB bs an))]) ∧ (findErr W H an most (inkB bs an) ≠ 0 → n = 0) ∧
      (findErr W H an most (inkB bs an) = 0 → n = (bestN (negF (scoreI bs W.toNat H.toNat)) most.toNat).1) ∧ Bl w w' := by
  let w2 := (w).alloc (.cells #[.int .i64 W, .int .i64 H, .slice A an ac] 39)
  have w2b : Bl w w2 := (Bl.refl w).alloc _
  have w21 : Blk w2 (w.heap.size) 39 #[.int .i64 W, .int .i64 H, .slice A an ac] := by
    have h0 := Blk.new (w) 39 #[.int .i64 W, .int .i64 H, .slice A an ac]
    exact h0
  have k1 := w21.all3
  have HA := Lib.hid (hA.bl w2b)
  clear hA
  have hcall : Calls Try.prog 138 #[.agg #[.int .i64 W, .int .i64 H, .slice A an ac], .int .i64 most, .func (.func 139) #[] #[.pointer (some ⟨w.heap.size, 0, none⟩)]] w2 fun e w' =>
      ∃ n : Int, e = .returned (.tuple #[.int .i64 n, .int .i64 (findErr W H an most (inkB bs an))]) ∧ (findErr W H an most (inkB bs an) ≠ 0 → n = 0) ∧ (findErr W H an most (inkB bs an) = 0 → n = (bestN (negF (scoreI bs W.toNat H.toNat)) most.toNat).1) ∧ Bl w2 w' := by
    by_cases he : findErr W H an most (inkB bs an) = 0
    · obtain ⟨hp, hm, hi⟩ := findErr_zero he
      have hz := sizeErr_zero (pageErr_zero hp).1
      obtain ⟨W, H, rfl, rfl, rfl, u1, u2, u3⟩ := page_nat hp
      obtain ⟨most, rfl⟩ := Int.eq_ofNat_of_zero_le hm.1
      have hW : 1 ≤ W ∧ W ≤ 4000 := by omega
      have hH : 1 ≤ H ∧ H ≤ 4000 := by omega
      have hink : 0 < (spotL bs (W * H)).length := by unfold inkB at hi; exact of_decide_eq_true hi
      refine (find_ok W H A ac bs most (scoreI bs W H) 139 #[.pointer (some ⟨w.heap.size, 0, none⟩)] w2 HA.out hp (by omega) hink (enters Try.func139 (by kernel_rfl) rfl)
        (fun wx P c n hb hP hn => find1_any _ W H A _ ac bs P c n wx (w21.bl hb) hP hW hH u3 hn)).mono ?_
      rintro e w' ⟨rfl, hb⟩
      exact ⟨_, by rw [he], fun h => absurd he h, fun _ => by simp, hb⟩
    · refine (find_bad W H A an ac bs most _ _ w2 HA.out he).mono ?_
      rintro e w' ⟨rfl, hb⟩
      exact ⟨0, rfl, fun _ => rfl, fun h => absurd h he, hb⟩
  have Hcall := Lib.hid hcall
  clear hcall
  go_enter Try.func81, Try.ntmps81
  go_wp2_with fail
  refine Hcall.out.mono ?_
  rintro e w3 ⟨n, rfl, h1, h2, hb3⟩
  have H1 := Lib.hid h1; have H2 := Lib.hid h2
  clear h1 h2
  go_wp2_with fail
  refine bodyPost_ret (v := .tuple #[.int .i64 n, .int .i64 (findErr W H an most (inkB bs an))]) (by simp [results, Try.results81, go_sem]) rfl ⟨n, rfl, H1.out, H2.out, w2b.trans hb3⟩
set_option maxRecDepth 100000 in
set_option maxHeartbeats 1000000 in
theorem findOf_any (W H : Nat) (A : Option Addr) (ac : Nat) (bs : List Bool) (most : Nat) (w : World) (hA : Reads w 1 A (W * H) (bs.map .bool)) (hW : W ≤ 4000) (hH : 1 ≤ H ∧ H ≤ 4000) (hbd : W * H ≤ 1048576) (hm : most ≤ 256) :
    Calls Try.prog 84 #[.agg #[.int .i64 W, .int .i64 H, .slice A (W * H) ac], .int .i64 most] w fun e w' => e = .returned (.int .i64 (bestN (negF (scoreI bs W H)) most).1) ∧ Bl w w' := by
  let w2 := (w).alloc (.cells #[.int .i64 W, .int .i64 H, .slice A (W * H) ac] 39)
  have w2b : Bl w w2 := (Bl.refl w).alloc _
  have w21 : Blk w2 (w.heap.size) 39 #[.int .i64 W, .int .i64 H, .slice A (W * H) ac] := by
    have h0 := Blk.new (w) 39 #[.int .i64 W, .int .i64 H, .slice A (W * H) ac]
    exact h0
  have hc := best_any most (negF (scoreI bs W H)) 142 #[.pointer (some ⟨w.heap.size, 0, none⟩)] w2 hm (enters Try.func142 (by kernel_rfl) rfl)
    (fun wx k hb hk => findOf1_any _ W H A ac bs k wx (w21.bl hb) ((hA.bl w2b).bl hb) hW hH hbd hk)
  have Hc := Lib.hid hc
  clear hc hA
  go_enter Try.func84, Try.ntmps84
  go_wp2_with fail
  refine Hc.out.mono ?_
  rintro e w3 ⟨rfl, hb3⟩
  go_wp2_with fail
  go_ret
  exact ⟨rfl, w2b.trans hb3⟩

set_option maxRecDepth 100000 in
set_option maxHeartbeats 1000000 in
theorem findSlant_any (W H : Int) (A : Option Addr) (an ac : Nat) (bs : List Bool) (most : Int) (w : World) (hA : Reads w 1 A an (bs.map .bool)) :
    Calls Try.prog 83 #[.agg #[.int .i64 W, .int .i64 H, .slice A an ac], .int .i64 most] w fun e w' => ∃ n : Int, e = .returned (.tuple #[.int .i64 n, .int .i64 (findErr W H an most (inkB bs an))]) ∧ (findErr W H an most (inkB bs an) ≠ 0 → n = 0) ∧
      (findErr W H an most (inkB bs an) = 0 → n = (bestN (negF (slantS bs W.toNat H.toNat)) most.toNat).1) ∧ Bl w w' := by
  let w2 := (w).alloc (.cells #[.int .i64 W, .int .i64 H, .slice A an ac] 39)
  have w2b : Bl w w2 := (Bl.refl w).alloc _
  have w21 : Blk w2 (w.heap.size) 39 #[.int .i64 W, .int .i64 H, .slice A an ac] := by
    have h0 := Blk.new (w) 39 #[.int .i64 W, .int .i64 H, .slice A an ac]
    exact h0
  have k1 := w21.all3
  have HA := Lib.hid (hA.bl w2b)
  clear hA
  have hcall : Calls Try.prog 138 #[.agg #[.int .i64 W, .int .i64 H, .slice A an ac], .int .i64 most, .func (.func 140) #[] #[.pointer (some ⟨w.heap.size, 0, none⟩)]] w2 fun e w' =>
      ∃ n : Int, e = .returned (.tuple #[.int .i64 n, .int .i64 (findErr W H an most (inkB bs an))]) ∧ (findErr W H an most (inkB bs an) ≠ 0 → n = 0) ∧ (findErr W H an most (inkB bs an) = 0 → n = (bestN (negF (slantS bs W.toNat H.toNat)) most.toNat).1) ∧ Bl w2 w' := by
    by_cases he : findErr W H an most (inkB bs an) = 0
    · obtain ⟨hp, hm, hi⟩ := findErr_zero he
      have hz := sizeErr_zero (pageErr_zero hp).1
      obtain ⟨W, H, rfl, rfl, rfl, u1, u2, u3⟩ := page_nat hp
      obtain ⟨most, rfl⟩ := Int.eq_ofNat_of_zero_le hm.1
      have hW : 1 ≤ W ∧ W ≤ 4000 := by omega
      have hH : 1 ≤ H ∧ H ≤ 4000 := by omega
      have hink : 0 < (spotL bs (W * H)).length := by unfold inkB at hi; exact of_decide_eq_true hi
      refine (find_ok W H A ac bs most (slantS bs W H) 140 #[.pointer (some ⟨w.heap.size, 0, none⟩)] w2 HA.out hp (by omega) hink (enters Try.func140 (by kernel_rfl) rfl)
        (fun wx P c n hb hP hn => findSlant1_any _ W H A _ ac bs P c n wx (w21.bl hb) hP hW hH u3 hn)).mono ?_
      rintro e w' ⟨rfl, hb⟩
      exact ⟨_, by rw [he], fun h => absurd he h, fun _ => by simp, hb⟩
    · refine (find_bad W H A an ac bs most _ _ w2 HA.out he).mono ?_
      rintro e w' ⟨rfl, hb⟩
      exact ⟨0, rfl, fun _ => rfl, fun h => absurd h he, hb⟩
  have Hcall := Lib.hid hcall
  clear hcall
  go_enter Try.func83, Try.ntmps83
  go_wp2_with fail
  refine Hcall.out.mono ?_
  rintro e w3 ⟨n, rfl, h1, h2, hb3⟩
  have H1 := Lib.hid h1; have H2 := Lib.hid h2
  clear h1 h2
  go_wp2_with fail
  refine bodyPost_ret (v := .tuple #[.int .i64 n, .int .i64 (findErr W H an most (inkB bs an))]) (by simp [results, Try.results83, go_sem]) rfl ⟨n, rfl, H1.out, H2.out, w2b.trans hb3⟩
set_option maxRecDepth 100000 in
set_option maxHeartbeats 1000000 in
theorem findSlantOf_any (W H : Nat) (A : Option Addr) (ac : Nat) (bs : List Bool) (most : Nat) (w : World) (hA : Reads w 1 A (W * H) (bs.map .bool)) (hW : W ≤ 4000) (hH : 1 ≤ H ∧ H ≤ 4000) (_hbd : W * H ≤ 1048576) (hm : most ≤ 256) :
    Calls Try.prog 85 #[.agg #[.int .i64 W, .int .i64 H, .slice A (W * H) ac], .int .i64 most] w fun e w' => e = .returned (.int .i64 (bestN (negF (slantS bs W H)) most).1) ∧ Bl w w' := by
  let w2 := (w).alloc (.cells #[.int .i64 W, .int .i64 H, .slice A (W * H) ac] 39)
  have w2b : Bl w w2 := (Bl.refl w).alloc _
  have w21 : Blk w2 (w.heap.size) 39 #[.int .i64 W, .int .i64 H, .slice A (W * H) ac] := by
    have h0 := Blk.new (w) 39 #[.int .i64 W, .int .i64 H, .slice A (W * H) ac]
    exact h0
  have hc := best_any most (negF (slantS bs W H)) 143 #[.pointer (some ⟨w.heap.size, 0, none⟩)] w2 hm (enters Try.func143 (by kernel_rfl) rfl)
    (fun wx k hb hk => findSlantOf1_any _ W H A ac bs k wx (w21.bl hb) ((hA.bl w2b).bl hb) hW hH hk)
  have Hc := Lib.hid hc
  clear hc hA
  go_enter Try.func85, Try.ntmps85
  go_wp2_with fail
  refine Hc.out.mono ?_
  rintro e w3 ⟨rfl, hb3⟩
  go_wp2_with fail
  go_ret
  exact ⟨rfl, w2b.trans hb3⟩

/-! ### Straight -/
set_option maxRecDepth 100000 in
set_option maxHeartbeats 2000000 in
theorem straight_any (W H : Int) (A : Option Addr) (an ac : Nat) (bs : List Bool) (most : Int) (w : World) (hA : Reads w 1 A an (bs.map .bool)) :
    Calls Try.prog 82 #[.agg #[.int .i64 W, .int .i64 H, .slice A an ac], .int .i64 most] w fun e w' => ∃ (a b : Int) (R : Option Addr) (m d : Nat) (n : Int), e = .returned (.tuple #[.agg #[.int .i64 a, .int .i64 b, .slice R m d], .int .i64 n, .int .i64 (findErr W H an most (inkB bs an))]) ∧
      (findErr W H an most (inkB bs an) ≠ 0 → n = 0) ∧ (findErr W H an most (inkB bs an) = 0 → n = (bestN (negF (scoreI bs W.toNat H.toNat)) most.toNat).1) ∧
      Res w.heap.size w' (findErr W H an most (inkB bs an)) W.toNat H.toNat ((grid W.toNat H.toNat (leanF bs W.toNat H.toNat (-n))).map .bool) a b R m d ∧ Bl w w' := by
  let w2 := ((w).alloc (.cells #[.int .i64 W, .int .i64 H, .slice A an ac] 39)).alloc (.cells #[.int .i64 0, .int .i64 0, .slice none 0 0] 39)
  have w2b : Bl w w2 := ((Bl.refl w).alloc _).alloc _
  have w21 : Blk w2 (w.heap.size) 39 #[.int .i64 W, .int .i64 H, .slice A an ac] := by
    have h0 := Blk.new (w) 39 #[.int .i64 W, .int .i64 H, .slice A an ac]
    exact (h0.alloc _)
  have w22 : Blk w2 (w.heap.size + 1) 39 #[.int .i64 0, .int .i64 0, .slice none 0 0] := by
    have h0 := Blk.new ((w).alloc (.cells #[.int .i64 W, .int .i64 H, .slice A an ac] 39)) 39 #[.int .i64 0, .int .i64 0, .slice none 0 0]
    simp only [World.size_alloc] at h0
    exact h0
  have k1 := w21.all3
  have HA := Lib.hid (hA.bl w2b)
  clear hA
  obtain ⟨E, hE⟩ : ∃ E, E = findErr W H an most (inkB bs an) := ⟨_, rfl⟩
  have c1 := fun w h => find_any W H A an ac bs most w h
  rw [← hE] at c1 ⊢
  have C1 := Lib.hid c1; have HE := Lib.hid hE
  clear c1 hE
  go_enter Try.func82, Try.ntmps82
  go_wp2_with fail
  refine (C1.out _ HA.out).mono ?_
  rintro e w3 ⟨n, rfl, h1, h2, hb3⟩
  have k3 := (w21.bl hb3).all3
  have k2 := (w22.bl hb3).all3
  have H1 := Lib.hid h1; have H2 := Lib.hid h2
  clear h1 h2 k1
  by_cases he : E = 0
  · have hq : (E != 0) = false := by simp [he]
    obtain ⟨hp, hm, hi⟩ := findErr_zero (HE.out.symm.trans he)
    have hbd := bestN_bd (negF (scoreI bs W.toNat H.toNat)) most.toNat
    rw [← H2.out he] at hbd
    have hnb : -256 ≤ -n ∧ -n ≤ 256 := by omega
    have hle0 : leanErr W H an (-n) = 0 := by unfold leanErr; rw [hp, inB_true.2 hnb]; rfl
    have c2 := fun w h => lean_any W H A an ac bs (-n) w h
    rw [hle0] at c2
    have hnn : -1000 ≤ n ∧ n ≤ 1000 := by omega
    have C2 := Lib.hid c2; have He := Lib.hid he
    clear c2 hp hm hi hle0 hbd hnb he
    go_wp2_with fail
    refine (C2.out _ (HA.out.bl hb3)).mono ?_
    rintro e w4 ⟨a, b, R, m, d, rfl, hres, hb4⟩
    have b5 := Blk.new w4 39 #[.int .i64 a, .int .i64 b, .slice R m d]
    have hb5 : Bl w3 (w4.alloc (.cells #[.int .i64 a, .int .i64 b, .slice R m d] 39)) := hb4.alloc _
    have hsz : w.heap.size + 2 ≤ w3.heap.size := by have := (w22.bl hb3).lt; omega
    have hres5 := hres.bl ((Bl.refl w4).alloc (.cells #[.int .i64 a, .int .i64 b, .slice R m d] 39))
    have HR := Lib.hid hres5
    clear hres hres5 k3 k2
    go_upto_region 5 with fail
    generalize hw5 : w4.alloc (.cells #[.int .i64 a, .int .i64 b, .slice R m d] 39) = w5 at b5 hb5 HR ⊢
    have k5 := b5.all3
    have k6 := (w22.bl (hb3.trans hb5)).all3
    clear hw5 hb4
    go_wp2_with fail
    have he := He.out
    refine bodyPost_ret (v := .tuple #[.agg #[.int .i64 a, .int .i64 b, .slice R m d], .int .i64 n, .int .i64 0]) (by simp [results, Try.results82, go_sem, k6]) rfl ⟨a, b, R, m, d, n, by rw [he], H1.out, H2.out, ?_, ?_⟩
    · have hR2 : ∀ ad, R = some ad → w.heap.size + 2 ≤ ad.block := fun ad h => by
        obtain ⟨A', c', e', _, hn⟩ := HR.out.1 rfl
        simp only [Value.agg.injEq, List.cons.injEq, Value.slice.injEq, and_true, Array.mk.injEq] at e'
        have := hn ad (by rw [← e'.2.2.1]; exact h)
        omega
      obtain ⟨A', c', e', hr, hn⟩ := HR.out.1 rfl
      have e2 := e'
      simp only [Value.agg.injEq, List.cons.injEq, Value.slice.injEq, and_true, Array.mk.injEq] at e2
      obtain ⟨e21, e22, e23, e24, e25⟩ := e2
      refine ⟨fun _ => ⟨A', c', e', ?_, fun ad h => by have := hn ad h; omega⟩, fun h => absurd he h⟩
      have hn2 : ∀ ad, A' = some ad → w.heap.size + 2 ≤ ad.block := fun ad h => by have := hn ad h; omega
      exact ((hr.store hn2 (by simp) _).store hn2 (by simp) _).store hn2 (by simp) _
    · exact (((((w2b.trans hb3).trans hb5).setCell (by simp) _).setCell (by simp) _).setCell (by simp) _)
  · have hq : (E != 0) = true := by simp [he]
    obtain rfl := H1.out he
    have He := Lib.hid he
    clear he
    go_wp2_with fail
    refine bodyPost_ret (v := .tuple #[.agg #[.int .i64 0, .int .i64 0, .slice none 0 0], .int .i64 0, .int .i64 E]) (by simp [results, Try.results82, go_sem, k2]) rfl ⟨_, _, _, _, _, 0, rfl, fun _ => rfl, H2.out, Res.zero _ _ _ _ _ He.out, ?_⟩
    exact ((((w2b.trans hb3).setCell (by simp) _).setCell (by simp) _).setCell (by simp) _)

/-! ### Upright -/
def turnI (bs : List Bool) (W H : Nat) : Int := if sqN (rowI bs W) H < sqN (colI bs W H) W then 1 else 0
def upErr (W H : Int) (k : Nat) (ink : Bool) : Int := firstNZ [pageErr W H k, whenI (!ink) 10]
set_option maxRecDepth 100000 in
set_option maxHeartbeats 2000000 in
theorem upright_any (W H : Int) (A : Option Addr) (an ac : Nat) (bs : List Bool) (w : World) (hA : Reads w 1 A an (bs.map .bool)) :
    Calls Try.prog 86 #[.agg #[.int .i64 W, .int .i64 H, .slice A an ac]] w fun e w' => ∃ u : Int, e = .returned (.tuple #[.int .i64 u, .int .i64 (upErr W H an (inkB bs an))]) ∧ (upErr W H an (inkB bs an) ≠ 0 → u = 0) ∧
      (upErr W H an (inkB bs an) = 0 → u = turnI bs W.toNat H.toNat) ∧ Bl w w' := by
  let w2 := (w).alloc (.cells #[.int .i64 W, .int .i64 H, .slice A an ac] 39)
  have w2b : Bl w w2 := (Bl.refl w).alloc _
  have w21 : Blk w2 (w.heap.size) 39 #[.int .i64 W, .int .i64 H, .slice A an ac] := by
    have h0 := Blk.new (w) 39 #[.int .i64 W, .int .i64 H, .slice A an ac]
    exact h0
  have k1 := w21.all3
  have HA := Lib.hid (hA.bl w2b)
  clear hA
  obtain ⟨E, hE⟩ : ∃ E, E = upErr W H an (inkB bs an) := ⟨_, rfl⟩
  rw [← hE]
  go_enter Try.func86, Try.ntmps86
  go_wp2_with fail
  refine (rows_any W H A an ac bs _ HA.out).mono ?_
  rintro e w3 ⟨P, m, c, rfl, hP, hb3⟩
  have k3 := (w21.bl hb3).all3
  have HP := Lib.hid hP
  clear hP k1
  by_cases hp : pageErr W H an = 0
  · have hq : (pageErr W H an != 0) = false := by simp [hp]
    obtain ⟨rfl, hR⟩ := HP.out.1 hp
    have e : E = whenI (!inkB bs an) 10 := by rw [hE]; unfold upErr; simp only [firstNZ, if_pos hp]; split <;> simp_all
    clear hE
    subst e
    have Hp := Lib.hid hp
    clear HP
    go_wp2_with fail
    refine (columns_any W H A an ac bs _ (HA.out.bl hb3)).mono ?_
    rintro e w4 ⟨P2, m2, c2, rfl, hP2, hb4⟩
    obtain ⟨rfl, hR2⟩ := hP2.1 Hp.out
    have hR4 := hR.bl hb4
    obtain ⟨W, H, rfl, rfl, rfl, u1, u2, u3⟩ := page_nat Hp.out
    simp only [Int.toNat_natCast] at hR4 hR2 ⊢
    have HR4 := Lib.hid hR4; have HR2 := Lib.hid hR2
    have hno := rows_none bs W H
    have h0 := sqN_nonneg (f := rowI bs W) (fun k => by unfold rowI; omega) H
    obtain ⟨r, hr⟩ : ∃ r, r = sqN (rowI bs W) H := ⟨_, rfl⟩
    obtain ⟨q, hq'⟩ : ∃ q, q = sqN (colI bs W H) W := ⟨_, rfl⟩
    have s1 := squares_any P H c (rowI bs W) w4 hR4 (by omega) (fun k => by have := rowN_le bs W k; unfold rowI; omega)
    have s2 := squares_any P2 W c2 (colI bs W H) w4 hR2 (by omega) (fun k => by have := colN_le bs W H k; unfold colI; omega)
    rw [← hr] at s1 hno h0
    rw [← hq'] at s2
    have S1 := Lib.hid s1; have S2 := Lib.hid s2; have Hr := Lib.hid hr; have Hq := Lib.hid hq'
    clear s1 s2 hR hR4 hR2 hP2 k3 hr hq'
    have hle := (w2b.trans hb3).trans hb4
    cases hi : inkB bs (W * H)
    · have he10 : whenI (!inkB bs (W * H)) 10 = 10 := by rw [hi]; rfl
      have He10 := Lib.hid he10
      clear he10
      have hr0 := hno.2 hi
      subst hr0
      clear hno hi Hr
      go_wp2_with fail
      refine S1.out.mono ?_
      rintro e w' ⟨rfl, rfl⟩
      go_wp2_with fail
      refine S2.out.mono ?_
      rintro e w' ⟨rfl, rfl⟩
      go_wp2_with fail
      refine bodyPost_ret (v := .tuple #[.int .i64 0, .int .i64 10]) (by simp [results, Try.results86, go_sem]) rfl ⟨0, by rw [He10.out], fun _ => rfl, fun h => absurd (He10.out.symm.trans h) (by decide), hle⟩
    · have he0 : whenI (!inkB bs (W * H)) 10 = 0 := by rw [hi]; rfl
      have He0 := Lib.hid he0
      clear he0
      have hr0 : r ≠ 0 := fun h => by rw [hno.1 h] at hi; cases hi
      have hr1 : (r == 0) = false := by simp [hr0]
      have Hr0 := Lib.hid hr0
      clear hno hi hr0
      by_cases hc : r < q
      · go_wp2_with fail
        refine S1.out.mono ?_
        rintro e w' ⟨rfl, rfl⟩
        go_wp2_with fail
        refine S2.out.mono ?_
        rintro e w' ⟨rfl, rfl⟩
        go_wp2_with fail
        refine bodyPost_ret (v := .tuple #[.int .i64 1, .int .i64 0]) (by simp [results, Try.results86, go_sem]) rfl ⟨1, by rw [He0.out], fun h => absurd He0.out h, fun _ => by unfold turnI; simp only [Int.toNat_natCast]; rw [if_pos (by rw [← Hr.out, ← Hq.out]; exact hc)], hle⟩
      · go_wp2_with fail
        refine S1.out.mono ?_
        rintro e w' ⟨rfl, rfl⟩
        go_wp2_with fail
        refine S2.out.mono ?_
        rintro e w' ⟨rfl, rfl⟩
        go_wp2_with fail
        refine bodyPost_ret (v := .tuple #[.int .i64 0, .int .i64 0]) (by simp [results, Try.results86, go_sem]) rfl ⟨0, by rw [He0.out], fun h => absurd He0.out h, fun _ => by unfold turnI; simp only [Int.toNat_natCast]; rw [if_neg (by rw [← Hr.out, ← Hq.out]; omega)], hle⟩
  · have hq : (pageErr W H an != 0) = true := by simp [hp]
    have e : E = pageErr W H an := by rw [hE]; unfold upErr; simp only [firstNZ, if_neg hp]
    have Hp := Lib.hid hp
    clear hE
    subst e
    clear hp HP
    go_wp2_with fail
    refine bodyPost_ret (v := .tuple #[.int .i64 0, .int .i64 (pageErr W H an)]) (by simp [results, Try.results86, go_sem]) rfl ⟨0, rfl, fun _ => rfl, fun h => absurd h Hp.out, w2b.trans hb3⟩

end Go.Proofs.Ytccgncjncklheaa
