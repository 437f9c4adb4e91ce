/- skew.Lean and skew.Slant. -/
import Derived.Test.YtecfjdladcmhjaaDoorMoved
import Derived.Test.YtecfjdladcmhjaaDoorSkew1
import Derived.Test.YtecfjdladcmhjaaDoorPages
import Derived.Laws.EntriesVeiled
namespace Go.Proofs.YtecfjdladcmhjaaDoor
open Go.RowKit

def leanF (bs : List Bool) (W H : Nat) (n : Int) (x y : Nat) : Bool := atI bs W H (x : Int) ((y : Int) - leanI W n x)
def slantF (bs : List Bool) (W H : Nat) (n : Int) (x y : Nat) : Bool := atI bs W H ((x : Int) - slantI H n y) (y : Int)

set_option maxRecDepth 100000 in
set_option maxHeartbeats 1000000 in
theorem lean1_any (p g W H : Nat) (n : Int) (x y : Nat) (w : World) (hp : Blk w p 83 #[.slice (some ⟨g, 0, none⟩) W W]) (hg : Blk w g 3 (tabI W (leanI W n))) (hW : W ≤ 4000) (hH : H ≤ 4000) (hn : -256 ≤ n ∧ n ≤ 256) (hx : x < W) (hy : y < H) :
    Calls Tryd.prog 111 #[.int .i64 x, .int .i64 y, .pointer (some ⟨p, 0, none⟩)] w fun e w' => e = .returned (.tuple #[.int .i64 (x : Int), .int .i64 ((y : Int) + leanI W n x)]) ∧ Bl w w' := by
  have kp := hp.all1
  have kg := hg.tabAt hx
  have hb := leanI_bd hW hn hx
  obtain ⟨s, hs⟩ : ∃ s, s = leanI W n x := ⟨_, rfl⟩
  rw [← hs] at kg hb ⊢
  clear hs
  go_enter Tryd.func111, Tryd.ntmps111
  go_wp2_with fail
  refine wp_region_flow [(true, 0), (true, 1), (true, 2), (true, 3), (true, 4), (true, 5), (true, 6), (true, 7), (true, 8)] (fun _ => false) (by kernel_rfl) (by kernel_rfl) (by kernel_rfl) (by kernel_rfl) ?_
  iterate 2
    apply Flow.mv _ rfl
    · intro K' hK'
      simp only [Act.put, Act.eval, List.setIfInBounds_toArray, List.set_cons_zero, List.set_cons_succ, arr_getD, List.getD_cons_zero, List.getD_cons_succ]
      exact hK'
  iterate 1
    apply Flow.calm2 _ _ rfl rfl
    · intro w' hb' K' hK'
      obtain ⟨hc', hf'⟩ := hb'.rule
      go_simp
      try go_ints
      exact hK'
    · intro K' hK'
      simp only [Act.put, List.setIfInBounds_toArray, List.set_cons_zero, List.set_cons_succ]
      exact hK'
  iterate 1
    apply Flow.mv _ rfl
    · intro K' hK'
      simp only [Act.put, Act.eval, List.setIfInBounds_toArray, List.set_cons_zero, List.set_cons_succ, arr_getD, List.getD_cons_zero]
      exact hK'
  iterate 1
    apply Flow.calm2 _ _ rfl rfl
    · intro w' hb' K' hK'
      obtain ⟨hc', hf'⟩ := hb'.rule
      go_simp
      try go_ints
      exact hK'
    · intro K' hK'
      simp only [Act.put, List.setIfInBounds_toArray, List.set_cons_zero, List.set_cons_succ]
      exact hK'
  iterate 1
    apply Flow.calm2 _ _ rfl rfl
    · intro w' hb' K' hK'
      obtain ⟨hc', hf'⟩ := hb'.rule
      go_simp
      try go_ints
      exact hK'
    · intro K' hK'
      simp only [Act.put, List.setIfInBounds_toArray, List.set_cons_zero, List.set_cons_succ]
      exact hK'
  iterate 1
    apply Flow.calm2 _ _ rfl rfl
    · intro w' hb' K' hK'
      obtain ⟨hc', hf'⟩ := hb'.rule
      go_simp
      try go_ints
      exact hK'
    · intro K' hK'
      simp only [Act.put, List.setIfInBounds_toArray, List.set_cons_zero, List.set_cons_succ]
      exact hK'
  iterate 2
    apply Flow.asg _ rfl
    · intro K' hK'
      simp only [Act.put, Act.eval, List.setIfInBounds_toArray, List.set_cons_zero, List.set_cons_succ, arr_getD, List.getD_cons_zero, List.getD_cons_succ]
      exact hK'
  refine Flow.done ?_
  go_wp2_with fail
  refine bodyPost_ret (v := .tuple #[.int .i64 (x : Int), .int .i64 ((y : Int) + s)]) (by simp [results, Tryd.results111, go_sem]) rfl ⟨rfl, by first | exact Bl.refl _ | exact (Bl.refl _).drew⟩
theorem lean_cells (bs : List Bool) (W H : Nat) (n : Int) : ((List.range (W * H)).map (hitTo bs W (fun x y => ((x : Int), (y : Int) + leanI W n x)) (W * H))) = grid W H (leanF bs W H n) :=
  List.map_congr_left fun k hk => by
    have hk := List.mem_range.1 hk
    rw [hit_lean bs W H (leanI W n) k hk]
    rfl
set_option maxRecDepth 100000 in
set_option maxHeartbeats 4000000 in
theorem lean_any (W H : Int) (A : Option Addr) (an ac : Nat) (bs : List Bool) (n : Int) (w : World) (hA : Reads w 1 A an (bs.map .bool)) :
    Calls Tryd.prog 36 #[.agg #[.int .i64 W, .int .i64 H, .slice A an ac], .int .i64 n] w fun e w' => ∃ a b R m d, e = .returned (.tuple #[.agg #[.int .i64 a, .int .i64 b, .slice R m d], .int .i64 (leanErr W H an n)]) ∧
      Res w.heap.size w' (leanErr W H an n) W.toNat H.toNat ((grid W.toNat H.toNat (leanF bs W.toNat H.toNat n)).map .bool) a b R m d ∧ Bl w w' := by
  let w2 := ((w).alloc (.cells #[.int .i64 W, .int .i64 H, .slice A an ac] 24)).alloc (.cells #[.int .i64 0, .int .i64 0, .slice none 0 0] 24)
  have w2b : Bl w w2 := ((Bl.refl w).alloc _).alloc _
  have w21 : Blk w2 (w.heap.size) 24 #[.int .i64 W, .int .i64 H, .slice A an ac] := by
    have h0 := Blk.new (w) 24 #[.int .i64 W, .int .i64 H, .slice A an ac]
    exact (h0.alloc _)
  have w22 : Blk w2 (w.heap.size + 1) 24 #[.int .i64 0, .int .i64 0, .slice none 0 0] := by
    have h0 := Blk.new ((w).alloc (.cells #[.int .i64 W, .int .i64 H, .slice A an ac] 24)) 24 #[.int .i64 0, .int .i64 0, .slice none 0 0]
    simp only [World.size_alloc] at h0
    exact h0
  by_cases he : leanErr W H an n = 0
  · obtain ⟨hp, hn⟩ := leanErr_zero he
    obtain ⟨W, H, rfl, rfl, rfl, u1, u2, u3⟩ := page_nat hp
    have hz := sizeErr_zero (pageErr_zero hp).1
    have hW : 1 ≤ W ∧ W ≤ 4000 := by omega
    have hH : 1 ≤ H ∧ H ≤ 4000 := by omega
    rw [Int.toNat_natCast, Int.toNat_natCast]
    clear hz hp
    go_enter Tryd.func36, Tryd.ntmps36
    go_wp2_with fail
    refine (check_any _ _ _ _ _ _ _).mono ?_
    rintro e w3 ⟨rfl, hb3⟩
    rw [he]
    have He := Lib.hid he
    clear he
    have k1 := (w21.bl hb3).all3
    go_wp2_with fail
    refine (leans_any W n _ hW.2 hW.1 hn).mono ?_
    rintro e w4 ⟨g, rfl, hg, hbg, hb4⟩
    have hb5 : Bl w2 (w4.alloc (.cells #[.slice (some ⟨g, 0, none⟩) W W] 83)) := (hb3.trans hb4).alloc _
    have b5 := Blk.new w4 83 #[.slice (some ⟨g, 0, none⟩) W W]
    have hbg5 := hbg.bl ((Bl.refl w4).alloc (.cells #[.slice (some ⟨g, 0, none⟩) W W] 83))
    have k1 := (w21.bl hb5).all3
    have hcall := moved_any W H A ac bs (fun x y => ((x : Int), (y : Int) + leanI W n x)) 111 #[.pointer (some ⟨w4.heap.size, 0, none⟩)] (w4.alloc (.cells #[.slice (some ⟨g, 0, none⟩) W W] 83)) ((hA.bl w2b).bl hb5) hW hH.2 u3
      (enters Tryd.func111 (by kernel_rfl) rfl) (fun wx x y hb hx hy => lean1_any _ g W H n x y wx (b5.bl hb) (hbg5.bl hb) hW.2 hH.2 hn hx hy)
      (fun x y hx hy => ⟨by simp only []; omega, by have := leanI_bd (W := W) (n := n) hW.2 hn hx; simp only []; omega⟩)
    have Hcall := Lib.hid hcall
    clear hcall hA b5 hbg5 hbg
    go_wp2_with fail
    refine Hcall.out.mono ?_
    rintro e w6 ⟨g6, rfl, hg6, hbg6, hb6⟩
    have k2 := (w22.bl (hb5.trans hb6)).all3
    have hle6 := w2b.trans (hb5.trans hb6)
    have hsz : w.heap.size + 2 ≤ g6 := by
      have h1 := (w22.bl hb5).lt
      simp at h1 hg6
      omega
    have hR := hbg6.tabReadsB
    rw [lean_cells] at hR
    have HR := Lib.hid hR
    clear hR hbg6 hg6
    go_wp2_with fail
    have hN : ∀ ad, some (⟨g6, 0, none⟩ : Addr) = some ad → w.heap.size + 2 ≤ ad.block := fun ad h => by injection h with h; subst h; exact hsz
    refine bodyPost_ret (v := .tuple #[.agg #[.int .i64 W, .int .i64 H, .slice (some ⟨g6, 0, none⟩) (W * H) (W * H)], .int .i64 0]) (by simp [results, Tryd.results36, go_sem, k2]) rfl ⟨_, _, _, _, _, by rw [He.out], Res.page He.out ?_ (fun ad h => by have := hN ad h; omega), ?_⟩
    · exact ((HR.out.store hN (by simp) _).store hN (by simp) _).store hN (by simp) _
    · exact (((hle6.setCell (by simp) _).setCell (by simp) _).setCell (by simp) _)
  · have hq : (leanErr W H an n != 0) = true := by simp [he]
    have He := Lib.hid he
    clear he
    go_enter Tryd.func36, Tryd.ntmps36
    go_wp2_with fail
    refine (check_any _ _ _ _ _ _ _).mono ?_
    rintro e w3 ⟨rfl, hb3⟩
    have k2 := (w22.bl hb3).all3
    go_wp2_with fail
    refine bodyPost_ret (v := .tuple #[.agg #[.int .i64 0, .int .i64 0, .slice none 0 0], .int .i64 (leanErr W H an n)]) (by simp [results, Tryd.results36, go_sem, k2]) rfl ⟨_, _, _, _, _, rfl, Res.zero _ _ _ _ _ He.out, ?_⟩
    exact ((((w2b.trans hb3).setCell (by simp) _).setCell (by simp) _).setCell (by simp) _)

theorem slant_cells (bs : List Bool) (W H : Nat) (n : Int) : ((List.range (W * H)).map (hitTo bs W (fun x y => ((x : Int) + slantI H n y, (y : Int))) (W * H))) = grid W H (slantF bs W H n) :=
  List.map_congr_left fun k hk => by
    have hk := List.mem_range.1 hk
    rw [hit_slant bs W H (slantI H n) k hk]
    rfl
end Go.Proofs.YtecfjdladcmhjaaDoor
