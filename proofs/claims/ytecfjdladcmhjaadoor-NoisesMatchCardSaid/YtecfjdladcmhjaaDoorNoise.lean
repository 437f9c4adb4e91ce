/- glyph.Noise. -/
import Derived.Test.YtecfjdladcmhjaaDoorClone
import Derived.Test.YtecfjdladcmhjaaDoorPages
namespace Go.Proofs.YtecfjdladcmhjaaDoor
open Go.RowKit

def noiseN (bs : List Bool) (s p : Int) (i : Nat) : Bool := bs.getD i false != decide (chanceI s (i : Int) < p)
def noiseF (bs : List Bool) (W : Nat) (s p : Int) (x y : Nat) : Bool := noiseN bs s p (y * W + x)
def noiseErr (W H : Int) (n : Nat) (p : Int) : Int := firstNZ [pageErr W H n, whenI (!inB p 0 1000) 3]

theorem Blk.readsTo {w : World} {g : Nat} {t : TypeId} {cs : Array Value} {n : Nat} {xs : List Value} (h : Blk w g t cs) (hl : xs.length = n) (hx : ∀ (i : Nat) (u : Value), xs[i]? = some u → cs[i]? = some u) : Reads w 1 (some ⟨g, 0, none⟩) n xs :=
  ⟨by rw [hl, Nat.mul_one], fun _ => ⟨_, rfl, fun j u hj => by
    have e : (⟨g, 0, none⟩ : Addr).add j = ⟨g, j, none⟩ := by unfold Addr.add; split <;> simp_all
    rw [e, h.cell]; exact hx j u hj⟩⟩
set_option maxRecDepth 100000 in
set_option maxHeartbeats 4000000 in
theorem noise_any (W H : Int) (A : Option Addr) (n c : Nat) (bs : List Bool) (s p : Int) (w : World) (hA : Reads w 1 A n (bs.map .bool)) :
    Calls Tryd.prog 45 #[.agg #[.int .i64 W, .int .i64 H, .slice A n c], .int .u32 s, .int .i64 p] w fun e w' => ∃ a b R m d, e = .returned (.tuple #[.agg #[.int .i64 a, .int .i64 b, .slice R m d], .int .i64 (noiseErr W H n p)]) ∧
      Res w.heap.size w' (noiseErr W H n p) W.toNat H.toNat ((grid W.toNat H.toNat (noiseF bs W.toNat s p)).map .bool) a b R m d ∧ Bl w w' := by
  let w2 := ((w).alloc (.cells #[.int .i64 W, .int .i64 H, .slice A n c] 24)).alloc (.cells #[.int .i64 0, .int .i64 0, .slice none 0 0] 24)
  have w2b : Bl w w2 := ((Bl.refl w).alloc _).alloc _
  have w21 : Blk w2 (w.heap.size) 24 #[.int .i64 W, .int .i64 H, .slice A n c] := by
    have h0 := Blk.new (w) 24 #[.int .i64 W, .int .i64 H, .slice A n c]
    exact (h0.alloc _)
  have w22 : Blk w2 (w.heap.size + 1) 24 #[.int .i64 0, .int .i64 0, .slice none 0 0] := by
    have h0 := Blk.new ((w).alloc (.cells #[.int .i64 W, .int .i64 H, .slice A n c] 24)) 24 #[.int .i64 0, .int .i64 0, .slice none 0 0]
    simp only [World.size_alloc] at h0
    exact h0
  have k1 := w21.all3
  have k2 := w22.all3
  have HA := Lib.hid (hA.bl w2b)
  have lw2 : w2.heap.size = w.heap.size + 2 := by simp [w2]
  have Lw2 := Lib.hid lw2
  have hck := checkBits_any W H A n c w2
  have Hck := Lib.hid hck
  clear hA lw2 hck
  by_cases hz : pageErr W H n = 0
  · by_cases c1 : p < 0
    · have he : noiseErr W H n p = 3 := by unfold noiseErr inB; simp [firstNZ, whenI, hz]; omega
      have HE := Lib.hid he
      have hq : (pageErr W H n == 0) = true := by simp [hz]
      clear hz he
      go_enter Tryd.func45, Tryd.ntmps45
      go_wp2_with fail
      refine Hck.out.mono ?_
      rintro e w3 ⟨rfl, hb3⟩
      have k1 := (w21.bl hb3).all3
      have k2 := (w22.bl hb3).all3
      go_wp2_with fail
      refine bodyPost_ret (v := .tuple #[.agg #[.int .i64 0, .int .i64 0, .slice none 0 0], .int .i64 3]) (by simp [results, Tryd.results45, go_sem, k2]) rfl ⟨0, 0, none, 0, 0, by rw [HE.out], Res.zero _ _ _ _ _ (by rw [HE.out]; decide), ?_⟩
      exact (((w2b.trans hb3).setCell (by simp) _).setCell (by simp) _).setCell (by simp) _
    · by_cases c2 : 1000 < p
      · have he : noiseErr W H n p = 3 := by unfold noiseErr inB; simp [firstNZ, whenI, hz]; omega
        have HE := Lib.hid he
        have hq : (pageErr W H n == 0) = true := by simp [hz]
        clear hz he
        go_enter Tryd.func45, Tryd.ntmps45
        go_wp2_with fail
        refine Hck.out.mono ?_
        rintro e w3 ⟨rfl, hb3⟩
        have k1 := (w21.bl hb3).all3
        have k2 := (w22.bl hb3).all3
        go_wp2_with fail
        refine bodyPost_ret (v := .tuple #[.agg #[.int .i64 0, .int .i64 0, .slice none 0 0], .int .i64 3]) (by simp [results, Tryd.results45, go_sem, k2]) rfl ⟨0, 0, none, 0, 0, by rw [HE.out], Res.zero _ _ _ _ _ (by rw [HE.out]; decide), ?_⟩
        exact (((w2b.trans hb3).setCell (by simp) _).setCell (by simp) _).setCell (by simp) _
      · have he : noiseErr W H n p = 0 := by unfold noiseErr inB; simp [firstNZ, whenI, hz]; omega
        have HE := Lib.hid he
        have hq : (pageErr W H n == 0) = true := by simp [hz]
        obtain ⟨W, H, rfl, rfl, rfl, u1, u2, u3⟩ := page_nat hz
        have hpos := (sizeErr_zero (pageErr_zero hz).1)
        have Hpos := Lib.hid hpos
        simp only [Int.toNat_natCast]
        clear hz he hpos
        go_enter Tryd.func45, Tryd.ntmps45
        go_wp2_with fail
        refine Hck.out.mono ?_
        rintro e w3 ⟨rfl, hb3⟩
        have k1 := (w21.bl hb3).all3
        have k2 := (w22.bl hb3).all3
        have hcl := cloned_any W H A (W * H) c bs w3 (HA.out.bl hb3) (by omega)
        have Hcl := Lib.hid hcl
        clear hcl
        go_wp2_with fail
        refine Hcl.out.mono ?_
        rintro e w4 ⟨R, d, rfl, hown, hb4⟩
        have hp0 : 0 < W * H := Nat.mul_pos (by have := Hpos.out; omega) (by have := Hpos.out; omega)
        obtain ⟨g, cs0, hR, hg3, hBg, hcs0⟩ : ∃ g cs, R = some ⟨g, 0, none⟩ ∧ w3.heap.size ≤ g ∧ Blk w4 g 4 cs ∧ W * H ≤ cs.size := by
          rcases hown.2 with ⟨_, h0⟩ | ⟨g, cap, cur, hv, hb, hg, hn, _, hs, _⟩
          · omega
          · injection hv with h1 h2 h3
            exact ⟨g, cur, h1, hb, hg, by omega⟩
        subst hR
        obtain ⟨o, ho⟩ : ∃ o, o = w4.heap.size := ⟨_, rfl⟩
        obtain ⟨w5, hw5⟩ : ∃ x, x = w4.alloc (.cells #[.int .i64 W, .int .i64 H, .slice (some ⟨g, 0, none⟩) (W * H) d] 24) := ⟨_, rfl⟩
        have b5 : Blk w5 o 24 #[.int .i64 W, .int .i64 H, .slice (some ⟨g, 0, none⟩) (W * H) d] := by rw [hw5, ho]; exact Blk.new _ _ _
        have hb5 : Bl w2 w5 := by rw [hw5]; exact (hb3.trans hb4).alloc _
        have hBg5 : Blk w5 g 4 cs0 := by rw [hw5]; exact hBg.alloc _
        have hgo : g ≠ o := by have := hBg.lt; omega
        have hg2 : w2.heap.size ≤ g := Nat.le_trans hb3.le hg3
        clear hown k1 k2
        go_upto_region 7 with fail
        rw [← hw5, ← ho]
        have k5 := b5.all3
        clear hw5 ho hBg hb4 hg3 Hcl hb3 hp0
        go_wp2_with fail
        go_loopw [29] (fun u wr => ∃ k : Nat, k ≤ W * H ∧ u = .int .i64 k ∧ Bl w2 wr ∧ Blk wr o 24 #[.int .i64 W, .int .i64 H, .slice (some ⟨g, 0, none⟩) (W * H) d] ∧ ∃ cs : Array Value, Blk wr g 4 cs ∧ W * H ≤ cs.size ∧ ∀ i, i < k → cs[i]? = some (.bool (noiseN bs s p i))) (fun u _ => W * H - (RowKit.intOf u).toNat)
        case atStart => exact ⟨0, Nat.zero_le _, rfl, hb5, b5, cs0, hBg5, hcs0, fun i hi => absurd hi (Nat.not_lt_zero _)⟩
        case round =>
          obtain ⟨k, hk, rfl, hbr, hbo, cs, hbg, hsz, hdone⟩ := hrel
          clear k5
          by_cases hlt : k < W * H
          · obtain ⟨ad, u, rfl, hu, hc⟩ := (HA.out.bl hbr).at_ hlt
            have hl : k < bs.length := by have := HA.out.1; simp at this; omega
            have hu' : u = .bool (bs.getD k false) := by simpa [List.getD, hl] using hu.symm
            subst hu'
            obtain ⟨v, hv⟩ : ∃ v, v = bs.getD k false := ⟨_, rfl⟩
            have hnz : noiseN bs s p k = (!(v == decide (chanceI s (k : Int) < p))) := by rw [hv]; rfl
            rw [← hv] at hc
            have k1 := (w21.bl hbr).all3
            have k9 := hbo.all3
            obtain ⟨vi, ci⟩ : ∃ v, wr.cell? ⟨g, k, none⟩ = some v := ⟨cs[k]'(by omega), by rw [hbg.cell]; simp⟩
            have fi := hbg.frozen k
            have HNz := Lib.hid hnz; have HD := Lib.hid hdone
            clear hu hl hv hnz hdone
            go_wp2_with fail
            refine wp_region_flow [(true, 0), (true, 1), (true, 2), (true, 3), (true, 4), (true, 5), (true, 6), (true, 7), (true, 8), (true, 9), (true, 11), (false, 10), (true, 12), (true, 13), (true, 14), (false, 15)] (fun i => i == 15) (by kernel_rfl) (by kernel_rfl) (by kernel_rfl) (by kernel_rfl) ?_
            iterate 1
              apply Flow.calm2 _ _ rfl rfl
              · intro w' hb' K' hK'
                obtain ⟨hc', hf'⟩ := hb'.rule
                go_simp
                try go_ints
                exact hK'
              · intro K' hK'
                simp only [Act.put, List.setIfInBounds_toArray, List.set_cons_zero, List.set_cons_succ]
                exact hK'
            iterate 1
              apply Flow.calm2 _ _ rfl rfl
              · intro w' hb' K' hK'
                obtain ⟨hc', hf'⟩ := hb'.rule
                go_simp
                try go_ints
                exact hK'
              · intro K' hK'
                simp only [Act.put, List.setIfInBounds_toArray, List.set_cons_zero, List.set_cons_succ]
                exact hK'
            iterate 1
              apply Flow.mv _ rfl
              · intro K' hK'
                simp only [Act.put, Act.eval, List.setIfInBounds_toArray, List.set_cons_zero, List.set_cons_succ, arr_getD, List.getD_cons_zero, List.getD_cons_succ]
                exact hK'
            iterate 1
              apply Flow.calm2 _ _ rfl rfl
              · intro w' hb' K' hK'
                obtain ⟨hc', hf'⟩ := hb'.rule
                go_simp
                try go_ints
                exact hK'
              · intro K' hK'
                simp only [Act.put, List.setIfInBounds_toArray, List.set_cons_zero, List.set_cons_succ]
                exact hK'
            iterate 1
              apply Flow.calm2 _ _ rfl rfl
              · intro w' hb' K' hK'
                obtain ⟨hc', hf'⟩ := hb'.rule
                go_simp
                try go_ints
                exact hK'
              · intro K' hK'
                simp only [Act.put, List.setIfInBounds_toArray, List.set_cons_zero, List.set_cons_succ]
                exact hK'
            iterate 1
              apply Flow.mv _ rfl
              · intro K' hK'
                simp only [Act.put, Act.eval, List.setIfInBounds_toArray, List.set_cons_zero, List.set_cons_succ, arr_getD, List.getD_cons_zero, List.getD_cons_succ]
                exact hK'
            iterate 1
              apply Flow.calm2 _ _ rfl rfl
              · intro w' hb' K' hK'
                obtain ⟨hc', hf'⟩ := hb'.rule
                go_simp
                try go_ints
                exact hK'
              · intro K' hK'
                simp only [Act.put, List.setIfInBounds_toArray, List.set_cons_zero, List.set_cons_succ]
                exact hK'
            iterate 1
              apply Flow.calm2 _ _ rfl rfl
              · intro w' hb' K' hK'
                obtain ⟨hc', hf'⟩ := hb'.rule
                go_simp
                try go_ints
                exact hK'
              · intro K' hK'
                simp only [Act.put, List.setIfInBounds_toArray, List.set_cons_zero, List.set_cons_succ]
                exact hK'
            iterate 3
              apply Flow.mv _ rfl
              · intro K' hK'
                simp only [Act.put, Act.eval, List.setIfInBounds_toArray, List.set_cons_zero, List.set_cons_succ, arr_getD, List.getD_cons_zero, List.getD_cons_succ]
                exact hK'
            apply Flow.move rfl
            go_wp2_with fail
            refine (chance_any _ _ _).mono ?_
            rintro e w' ⟨rfl, rfl⟩
            go_wp2_with fail
            refine ⟨fun _ => (by first | exact HB1 | exact Bl.refl _), ?_⟩
            iterate 2
              apply Flow.calm2 _ _ rfl rfl
              · intro w' hb' K' hK'
                obtain ⟨hc', hf'⟩ := hb'.rule
                go_simp
                try go_ints
                exact hK'
              · intro K' hK'
                simp only [Act.put, List.setIfInBounds_toArray, List.set_cons_zero, List.set_cons_succ]
                exact hK'
            iterate 1
              apply Flow.calm2 _ _ rfl rfl
              · intro w' hb' K' hK'
                obtain ⟨hc', hf'⟩ := hb'.rule
                go_simp
                try go_ints
                exact hK'
              · intro K' hK'
                simp only [Act.put, List.setIfInBounds_toArray, List.set_cons_zero, List.set_cons_succ]
                exact hK'
            refine Flow.tail _ rfl ?_
            go_wp2_with fail
            refine ⟨⟨k + 1, hlt, by go_num, (hbr.setCell (by simpa using hg2) _).drew, (hbo.far (by simpa using Ne.symm hgo) _).drew, _, (hbg.set_ k _).drew, by simpa using hsz, fun i hi => ?_⟩, by simp [RowKit.intOf]; omega⟩
            by_cases e : k = i
            · subst e
              rw [HNz.out, Array.getElem?_setIfInBounds_self_of_lt (by omega)]
            · rw [Array.getElem?_setIfInBounds_ne e]
              exact HD.out i (by omega)
          · obtain rfl : k = W * H := by omega
            have k9 := hbo.all3
            have k2 := (w22.bl hbr).all3
            have q : g ≠ w.heap.size + 1 := by have := Lw2.out; omega
            have HD := Lib.hid hdone
            clear hdone
            go_wp2_with fail
            refine bodyPost_ret (v := .tuple #[.agg #[.int .i64 W, .int .i64 H, .slice (some ⟨g, 0, none⟩) (W * H) d], .int .i64 0]) (by simp [results, Tryd.results45, go_sem, k2]) rfl ⟨_, _, some ⟨g, 0, none⟩, _, d, by rw [HE.out], Res.page HE.out ?_ (fun ad h => by injection h with h; subst h; have := Lw2.out; show w.heap.size ≤ g; omega), ?_⟩
            · refine Blk.readsTo (((hbg.far (p := ⟨w.heap.size + 1, 0, none⟩) q _).far (p := ⟨w.heap.size + 1, 1, none⟩) q _).far (p := ⟨w.heap.size + 1, 2, none⟩) q _) (by simp [grid_length]) (fun i u hi => ?_)
              rw [List.getElem?_map] at hi
              rcases Nat.lt_or_ge i (W * H) with h | h
              · rw [grid_at W H _ i h] at hi
                have h2 := HD.out i h
                rw [h2]
                unfold noiseF at hi
                rw [show i / W * W + i % W = i by rw [Nat.mul_comm]; exact Nat.div_add_mod i W] at hi
                exact hi
              · rw [List.getElem?_eq_none (by rw [grid_length]; exact h)] at hi
                cases hi
            · exact (((w2b.trans hbr).setCell (by simp) _).setCell (by simp) _).setCell (by simp) _
  · have he : noiseErr W H n p = pageErr W H n := by unfold noiseErr; simp [firstNZ, hz]
    have HE := Lib.hid he
    have HZ := Lib.hid hz
    have hq : (pageErr W H n == 0) = false := by simp [hz]
    clear hz he
    go_enter Tryd.func45, Tryd.ntmps45
    go_wp2_with fail
    refine Hck.out.mono ?_
    rintro e w3 ⟨rfl, hb3⟩
    have k1 := (w21.bl hb3).all3
    have k2 := (w22.bl hb3).all3
    go_wp2_with fail
    refine bodyPost_ret (v := .tuple #[.agg #[.int .i64 0, .int .i64 0, .slice none 0 0], .int .i64 (pageErr W H n)]) (by simp [results, Tryd.results45, go_sem, k2]) rfl ⟨0, 0, none, 0, 0, by rw [HE.out], Res.zero _ _ _ _ _ (by rw [HE.out]; exact HZ.out), ?_⟩
    exact (((w2b.trans hb3).setCell (by simp) _).setCell (by simp) _).setCell (by simp) _

end Go.Proofs.YtecfjdladcmhjaaDoor
