/- Box, Find, FindSlant, Straight, Upright; FindOf, FindSlantOf. -/
import Derived.Test.YtecfjdladcmhjaaDoorFind1
import Derived.Test.YtecfjdladcmhjaaDoorFind2
import Derived.Test.YtecfjdladcmhjaaDoorLean
namespace Go.Proofs.YtecfjdladcmhjaaDoor
open Go.RowKit

/-! ### Box -/
/-! ### Find and FindSlant -/

set_option maxRecDepth 100000 in
set_option maxHeartbeats 1000000 in
theorem find_any (W H : Int) (A : Option Addr) (an ac : Nat) (bs : List Bool) (most : Int) (w : World) (hA : Reads w 1 A an (bs.map .bool)) :
    Calls Tryd.prog 112 #[.agg #[.int .i64 W, .int .i64 H, .slice A an ac], .int .i64 most] w fun e w' => ∃ n : Int, e = .returned (.tuple #[.int .i64 n, .int .i64 (findErr W H an most (inkB bs an))]) ∧ (findErr W H an most (inkB bs an) ≠ 0 → n = 0) ∧
      (findErr W H an most (inkB bs an) = 0 → n = (bestN (negF (scoreI bs W.toNat H.toNat)) most.toNat).1) ∧ Bl w w' := by
  let w2 := (w).alloc (.cells #[.int .i64 W, .int .i64 H, .slice A an ac] 24)
  have w2b : Bl w w2 := (Bl.refl w).alloc _
  have w21 : Blk w2 (w.heap.size) 24 #[.int .i64 W, .int .i64 H, .slice A an ac] := by
    have h0 := Blk.new (w) 24 #[.int .i64 W, .int .i64 H, .slice A an ac]
    exact h0
  have k1 := w21.all3
  have HA := Lib.hid (hA.bl w2b)
  clear hA
  have hcall : Calls Tryd.prog 174 #[.agg #[.int .i64 W, .int .i64 H, .slice A an ac], .int .i64 most, .func (.func 175) #[] #[.pointer (some ⟨w.heap.size, 0, none⟩)]] w2 fun e w' =>
      ∃ n : Int, e = .returned (.tuple #[.int .i64 n, .int .i64 (findErr W H an most (inkB bs an))]) ∧ (findErr W H an most (inkB bs an) ≠ 0 → n = 0) ∧ (findErr W H an most (inkB bs an) = 0 → n = (bestN (negF (scoreI bs W.toNat H.toNat)) most.toNat).1) ∧ Bl w2 w' := by
    by_cases he : findErr W H an most (inkB bs an) = 0
    · obtain ⟨hp, hm, hi⟩ := findErr_zero he
      have hz := sizeErr_zero (pageErr_zero hp).1
      obtain ⟨W, H, rfl, rfl, rfl, u1, u2, u3⟩ := page_nat hp
      obtain ⟨most, rfl⟩ := Int.eq_ofNat_of_zero_le hm.1
      have hW : 1 ≤ W ∧ W ≤ 4000 := by omega
      have hH : 1 ≤ H ∧ H ≤ 4000 := by omega
      have hink : 0 < (spotL bs (W * H)).length := by unfold inkB at hi; exact of_decide_eq_true hi
      refine (find_ok W H A ac bs most (scoreI bs W H) 175 #[.pointer (some ⟨w.heap.size, 0, none⟩)] w2 HA.out hp (by omega) hink (enters Tryd.func175 (by kernel_rfl) rfl)
        (fun wx P c n hb hP hn => find1_any _ W H A _ ac bs P c n wx (w21.bl hb) hP hW hH u3 hn)).mono ?_
      rintro e w' ⟨rfl, hb⟩
      exact ⟨_, by rw [he], fun h => absurd he h, fun _ => by simp, hb⟩
    · refine (find_bad W H A an ac bs most _ _ w2 HA.out he).mono ?_
      rintro e w' ⟨rfl, hb⟩
      exact ⟨0, rfl, fun _ => rfl, fun h => absurd h he, hb⟩
  have Hcall := Lib.hid hcall
  clear hcall
  go_enter Tryd.func112, Tryd.ntmps112
  go_wp2_with fail
  refine Hcall.out.mono ?_
  rintro e w3 ⟨n, rfl, h1, h2, hb3⟩
  have H1 := Lib.hid h1; have H2 := Lib.hid h2
  clear h1 h2
  go_wp2_with fail
  refine bodyPost_ret (v := .tuple #[.int .i64 n, .int .i64 (findErr W H an most (inkB bs an))]) (by simp [results, Tryd.results112, go_sem]) rfl ⟨n, rfl, H1.out, H2.out, w2b.trans hb3⟩
/-! ### Straight -/
set_option maxRecDepth 100000 in
set_option maxHeartbeats 2000000 in
theorem straight_any (W H : Int) (A : Option Addr) (an ac : Nat) (bs : List Bool) (most : Int) (w : World) (hA : Reads w 1 A an (bs.map .bool)) :
    Calls Tryd.prog 37 #[.agg #[.int .i64 W, .int .i64 H, .slice A an ac], .int .i64 most] w fun e w' => ∃ (a b : Int) (R : Option Addr) (m d : Nat) (n : Int), e = .returned (.tuple #[.agg #[.int .i64 a, .int .i64 b, .slice R m d], .int .i64 n, .int .i64 (findErr W H an most (inkB bs an))]) ∧
      (findErr W H an most (inkB bs an) ≠ 0 → n = 0) ∧ (findErr W H an most (inkB bs an) = 0 → n = (bestN (negF (scoreI bs W.toNat H.toNat)) most.toNat).1) ∧
      Res w.heap.size w' (findErr W H an most (inkB bs an)) W.toNat H.toNat ((grid W.toNat H.toNat (leanF bs W.toNat H.toNat (-n))).map .bool) a b R m d ∧ Bl w w' := by
  let w2 := ((w).alloc (.cells #[.int .i64 W, .int .i64 H, .slice A an ac] 24)).alloc (.cells #[.int .i64 0, .int .i64 0, .slice none 0 0] 24)
  have w2b : Bl w w2 := ((Bl.refl w).alloc _).alloc _
  have w21 : Blk w2 (w.heap.size) 24 #[.int .i64 W, .int .i64 H, .slice A an ac] := by
    have h0 := Blk.new (w) 24 #[.int .i64 W, .int .i64 H, .slice A an ac]
    exact (h0.alloc _)
  have w22 : Blk w2 (w.heap.size + 1) 24 #[.int .i64 0, .int .i64 0, .slice none 0 0] := by
    have h0 := Blk.new ((w).alloc (.cells #[.int .i64 W, .int .i64 H, .slice A an ac] 24)) 24 #[.int .i64 0, .int .i64 0, .slice none 0 0]
    simp only [World.size_alloc] at h0
    exact h0
  have k1 := w21.all3
  have HA := Lib.hid (hA.bl w2b)
  clear hA
  obtain ⟨E, hE⟩ : ∃ E, E = findErr W H an most (inkB bs an) := ⟨_, rfl⟩
  have c1 := fun w h => find_any W H A an ac bs most w h
  rw [← hE] at c1 ⊢
  have C1 := Lib.hid c1; have HE := Lib.hid hE
  clear c1 hE
  go_enter Tryd.func37, Tryd.ntmps37
  go_wp2_with fail
  refine (C1.out _ HA.out).mono ?_
  rintro e w3 ⟨n, rfl, h1, h2, hb3⟩
  have k3 := (w21.bl hb3).all3
  have k2 := (w22.bl hb3).all3
  have H1 := Lib.hid h1; have H2 := Lib.hid h2
  clear h1 h2 k1
  by_cases he : E = 0
  · have hq : (E != 0) = false := by simp [he]
    obtain ⟨hp, hm, hi⟩ := findErr_zero (HE.out.symm.trans he)
    have hbd := bestN_bd (negF (scoreI bs W.toNat H.toNat)) most.toNat
    rw [← H2.out he] at hbd
    have hnb : -256 ≤ -n ∧ -n ≤ 256 := by omega
    have hle0 : leanErr W H an (-n) = 0 := by unfold leanErr; rw [hp, inB_true.2 hnb]; rfl
    have c2 := fun w h => lean_any W H A an ac bs (-n) w h
    rw [hle0] at c2
    have hnn : -1000 ≤ n ∧ n ≤ 1000 := by omega
    have C2 := Lib.hid c2; have He := Lib.hid he
    clear c2 hp hm hi hle0 hbd hnb he
    go_wp2_with fail
    refine (C2.out _ (HA.out.bl hb3)).mono ?_
    rintro e w4 ⟨a, b, R, m, d, rfl, hres, hb4⟩
    have b5 := Blk.new w4 24 #[.int .i64 a, .int .i64 b, .slice R m d]
    have hb5 : Bl w3 (w4.alloc (.cells #[.int .i64 a, .int .i64 b, .slice R m d] 24)) := hb4.alloc _
    have hsz : w.heap.size + 2 ≤ w3.heap.size := by have := (w22.bl hb3).lt; omega
    have hres5 := hres.bl ((Bl.refl w4).alloc (.cells #[.int .i64 a, .int .i64 b, .slice R m d] 24))
    have HR := Lib.hid hres5
    clear hres hres5 k3 k2
    go_upto_region 5 with fail
    generalize hw5 : w4.alloc (.cells #[.int .i64 a, .int .i64 b, .slice R m d] 24) = w5 at b5 hb5 HR ⊢
    have k5 := b5.all3
    have k6 := (w22.bl (hb3.trans hb5)).all3
    clear hw5 hb4
    go_wp2_with fail
    have he := He.out
    refine bodyPost_ret (v := .tuple #[.agg #[.int .i64 a, .int .i64 b, .slice R m d], .int .i64 n, .int .i64 0]) (by simp [results, Tryd.results37, go_sem, k6]) rfl ⟨a, b, R, m, d, n, by rw [he], H1.out, H2.out, ?_, ?_⟩
    · have hR2 : ∀ ad, R = some ad → w.heap.size + 2 ≤ ad.block := fun ad h => by
        obtain ⟨A', c', e', _, hn⟩ := HR.out.1 rfl
        simp only [Value.agg.injEq, List.cons.injEq, Value.slice.injEq, and_true, Array.mk.injEq] at e'
        have := hn ad (by rw [← e'.2.2.1]; exact h)
        omega
      obtain ⟨A', c', e', hr, hn⟩ := HR.out.1 rfl
      have e2 := e'
      simp only [Value.agg.injEq, List.cons.injEq, Value.slice.injEq, and_true, Array.mk.injEq] at e2
      obtain ⟨e21, e22, e23, e24, e25⟩ := e2
      refine ⟨fun _ => ⟨A', c', e', ?_, fun ad h => by have := hn ad h; omega⟩, fun h => absurd he h⟩
      have hn2 : ∀ ad, A' = some ad → w.heap.size + 2 ≤ ad.block := fun ad h => by have := hn ad h; omega
      exact ((hr.store hn2 (by simp) _).store hn2 (by simp) _).store hn2 (by simp) _
    · exact (((((w2b.trans hb3).trans hb5).setCell (by simp) _).setCell (by simp) _).setCell (by simp) _)
  · have hq : (E != 0) = true := by simp [he]
    obtain rfl := H1.out he
    have He := Lib.hid he
    clear he
    go_wp2_with fail
    refine bodyPost_ret (v := .tuple #[.agg #[.int .i64 0, .int .i64 0, .slice none 0 0], .int .i64 0, .int .i64 E]) (by simp [results, Tryd.results37, go_sem, k2]) rfl ⟨_, _, _, _, _, 0, rfl, fun _ => rfl, H2.out, Res.zero _ _ _ _ _ He.out, ?_⟩
    exact ((((w2b.trans hb3).setCell (by simp) _).setCell (by simp) _).setCell (by simp) _)

/-! ### Upright -/
def turnI (bs : List Bool) (W H : Nat) : Int := if sqN (rowI bs W) H < sqN (colI bs W H) W then 1 else 0
def upErr (W H : Int) (k : Nat) (ink : Bool) : Int := firstNZ [pageErr W H k, whenI (!ink) 10]
end Go.Proofs.YtecfjdladcmhjaaDoor
