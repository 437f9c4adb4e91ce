/- bedref2.NoiseOf. -/
import Derived.Test.YtjelhdpcaileiaaDoorU19
import Derived.Test.YtjelhdpcaileiaaDoorU1
import Derived.Lib.SliceRun

namespace Go.Proofs.YtjelhdpcaileiaaDoor
open Go.RowKit

theorem own_mono {w : World} {base base' : Nat} {e : TypeId} {size : Nat} {v : Value} {n : Nat} {xs : List Value} (h : w.ownsRow base e size v n xs) (hb : base' ≤ base) : w.ownsRow base' e size v n xs := by
  refine ⟨h.1, ?_⟩
  rcases h.2 with h2 | ⟨g, cap, cur, hv, hg, r⟩
  · exact .inl h2
  · exact .inr ⟨g, cap, cur, hv, Nat.le_trans hb hg, r⟩
set_option maxRecDepth 100000 in
set_option maxHeartbeats 1000000 in
theorem clone_any (A : Option Addr) (n c : Nat) (xs : List Bool) (w : World) (hA : Reads w 1 A n (xs.map .bool)) (hn : n ≤ 1099511627776) :
    Calls Tryd.prog 152 #[.slice A n c] w fun e w' => ∃ v, e = .returned v ∧ w'.ownsRow w.heap.size 4 1 v n (xs.map .bool) ∧ Bl w w' := by
  rcases A with _ | ad
  · have h0 : n = 0 := by
      rcases Nat.eq_zero_or_pos n with h | h
      · exact h
      · obtain ⟨ad, e, _⟩ := hA.2 h; cases e
    subst h0
    have hx : xs = [] := List.eq_nil_of_length_eq_zero (by simpa using hA.1)
    subst hx
    have q22 := fun w => Lib.run_eql_slice_nil (P := Tryd.prog) w 25 _ none 0 c 0 0 Tryd.underlying25
    go_enter Tryd.func152, Tryd.ntmps152
    go_wp2_with fail
    go_ret
    exact ⟨_, rfl, World.ownsRow_nil _ _ _ _, Bl.refl _⟩
  · have HA := Lib.hid hA
    have h1 : ∀ u ∈ xs.map Value.bool, u.oneCell' = true := fun u hu => by obtain ⟨b, _, rfl⟩ := List.mem_map.1 hu; rfl
    have H1 := Lib.hid h1
    clear hA h1
    have q22 := fun w => Lib.run_eql_slice_nil (P := Tryd.prog) w 25 _ (some ad) n c 0 0 Tryd.underlying25
    go_enter Tryd.func152, Tryd.ntmps152
    go_wp2_with (at_builtin; refine wpList_append_bl rfl (.tmp 5) (.tmp 6) 25 rfl 4 (.bool false) 1 1 Tryd.underlying25 info_bool rfl (by omega) w.heap.size _ 0 [] rfl ?hb (Nat.le_refl _) ?hB ?hown _ n c _ rfl ?hr H1.out ?c1 ?c2 ?_)
    case hb => exact (Bl.refl _).alloc _
    case hB => simp
    case hown => exact ⟨rfl, Or.inr ⟨w.heap.size, 0, #[], rfl, Nat.le_refl _, MapKept.heap_alloc w _ |>.1, Nat.le_refl _, Nat.zero_le _, rfl, rfl⟩⟩
    case hr => exact HA.out.bl ((Bl.refl _).alloc _)
    case c1 => unfold maxLen; omega
    case c2 => omega
    intro v' w' hown hb' _
    go_wp2_with fail
    go_ret
    exact ⟨_, rfl, hown, hb'⟩

set_option maxRecDepth 100000 in
set_option maxHeartbeats 1000000 in
theorem cloned_any (W H : Int) (A : Option Addr) (n c : Nat) (xs : List Bool) (w : World) (hA : Reads w 1 A n (xs.map .bool)) (hn : n ≤ 1099511627776) :
    Calls Tryd.prog 73 #[.agg #[.int .i64 W, .int .i64 H, .slice A n c]] w fun e w' => ∃ R d, e = .returned (.agg #[.int .i64 W, .int .i64 H, .slice R n d]) ∧ w'.ownsRow w.heap.size 4 1 (.slice R n d) n (xs.map .bool) ∧ Bl w w' := by
  let w2 := ((w).alloc (.cells #[.int .i64 W, .int .i64 H, .slice A n c] 27)).alloc (.cells #[.int .i64 0, .int .i64 0, .slice none 0 0] 27)
  have w2b : Bl w w2 := ((Bl.refl w).alloc _).alloc _
  have w21 : Blk w2 (w.heap.size) 27 #[.int .i64 W, .int .i64 H, .slice A n c] := by
    have h0 := Blk.new (w) 27 #[.int .i64 W, .int .i64 H, .slice A n c]
    exact (h0.alloc _)
  have w22 : Blk w2 (w.heap.size + 1) 27 #[.int .i64 0, .int .i64 0, .slice none 0 0] := by
    have h0 := Blk.new ((w).alloc (.cells #[.int .i64 W, .int .i64 H, .slice A n c] 27)) 27 #[.int .i64 0, .int .i64 0, .slice none 0 0]
    simp only [World.size_alloc] at h0
    exact h0
  have k1 := w21.all3
  have lw2 : w2.heap.size = w.heap.size + 2 := by simp [w2]
  have Hc := Lib.hid (clone_any A n c xs w2 (hA.bl w2b) hn)
  have Lw2 := Lib.hid lw2
  clear hA lw2
  go_enter Tryd.func73, Tryd.ntmps73
  go_wp2_with fail
  refine Hc.out.mono ?_
  rintro e w3 ⟨v, rfl, hown, hb3⟩
  obtain ⟨R, d, rfl, -, -⟩ := own_new hown
  have k1 := (w21.bl hb3).all3
  have k2 := (w22.bl hb3).all3
  have HO := Lib.hid hown
  clear hown
  go_wp2_with fail
  have q : ∀ i, (⟨w.heap.size, i, none⟩ : Addr).block < w2.heap.size := fun i => by rw [Lw2.out]; simp
  have q' : ∀ i, (⟨w.heap.size + 1, i, none⟩ : Addr).block < w2.heap.size := fun i => by rw [Lw2.out]; simp
  refine bodyPost_ret (v := .agg #[.int .i64 W, .int .i64 H, .slice R n d]) (by simp [results, Tryd.results73, go_sem, k2]) rfl ⟨R, d, rfl, ?_, ?_⟩
  · exact own_mono (ownsRow_setCell_below (ownsRow_setCell_below (ownsRow_setCell_below (ownsRow_setCell_below HO.out (q 2) _) (q' 0) _) (q' 1) _) (q' 2) _) (by rw [Lw2.out]; omega)
  · exact (((((w2b.trans hb3).setCell (by simp) _).setCell (by simp) _).setCell (by simp) _).setCell (by simp) _)

end Go.Proofs.YtjelhdpcaileiaaDoor


/-! glyph.Noise. -/
namespace Go.Proofs.YtjelhdpcaileiaaDoor
open Go.RowKit

def noiseN (bs : List Bool) (s p : Int) (i : Nat) : Bool := bs.getD i false != decide (chanceI s (i : Int) < p)
def noiseF (bs : List Bool) (W : Nat) (s p : Int) (x y : Nat) : Bool := noiseN bs s p (y * W + x)
def noiseErr (W H : Int) (n : Nat) (p : Int) : Int := firstNZ [pageErr W H n, whenI (!inB p 0 1000) 3]

theorem Blk.readsTo {w : World} {g : Nat} {t : TypeId} {cs : Array Value} {n : Nat} {xs : List Value} (h : Blk w g t cs) (hl : xs.length = n) (hx : ∀ (i : Nat) (u : Value), xs[i]? = some u → cs[i]? = some u) : Reads w 1 (some ⟨g, 0, none⟩) n xs :=
  ⟨by rw [hl, Nat.mul_one], fun _ => ⟨_, rfl, fun j u hj => by
    have e : (⟨g, 0, none⟩ : Addr).add j = ⟨g, j, none⟩ := by unfold Addr.add; split <;> simp_all
    rw [e, h.cell]; exact hx j u hj⟩⟩
set_option maxRecDepth 100000 in
set_option maxHeartbeats 4000000 in
theorem noise_any (W H : Int) (A : Option Addr) (n c : Nat) (bs : List Bool) (s p : Int) (w : World) (hA : Reads w 1 A n (bs.map .bool)) :
    Calls Tryd.prog 10 #[.agg #[.int .i64 W, .int .i64 H, .slice A n c], .int .u32 s, .int .i64 p] w fun e w' => ∃ a b R m d, e = .returned (.tuple #[.agg #[.int .i64 a, .int .i64 b, .slice R m d], .int .i64 (noiseErr W H n p)]) ∧
      Res w.heap.size w' (noiseErr W H n p) W.toNat H.toNat ((grid W.toNat H.toNat (noiseF bs W.toNat s p)).map .bool) a b R m d ∧ Bl w w' := by
  let w2 := ((w).alloc (.cells #[.int .i64 W, .int .i64 H, .slice A n c] 27)).alloc (.cells #[.int .i64 0, .int .i64 0, .slice none 0 0] 27)
  have w2b : Bl w w2 := ((Bl.refl w).alloc _).alloc _
  have w21 : Blk w2 (w.heap.size) 27 #[.int .i64 W, .int .i64 H, .slice A n c] := by
    have h0 := Blk.new (w) 27 #[.int .i64 W, .int .i64 H, .slice A n c]
    exact (h0.alloc _)
  have w22 : Blk w2 (w.heap.size + 1) 27 #[.int .i64 0, .int .i64 0, .slice none 0 0] := by
    have h0 := Blk.new ((w).alloc (.cells #[.int .i64 W, .int .i64 H, .slice A n c] 27)) 27 #[.int .i64 0, .int .i64 0, .slice none 0 0]
    simp only [World.size_alloc] at h0
    exact h0
  have k1 := w21.all3
  have k2 := w22.all3
  have HA := Lib.hid (hA.bl w2b)
  have lw2 : w2.heap.size = w.heap.size + 2 := by simp [w2]
  have Lw2 := Lib.hid lw2
  have hck := checkBits_any W H A n c w2
  have Hck := Lib.hid hck
  clear hA lw2 hck
  by_cases hz : pageErr W H n = 0
  · by_cases c1 : p < 0
    · have he : noiseErr W H n p = 3 := by unfold noiseErr inB; simp [firstNZ, whenI, hz]; omega
      have HE := Lib.hid he
      have hq : (pageErr W H n == 0) = true := by simp [hz]
      clear hz he
      go_enter Tryd.func10, Tryd.ntmps10
      go_wp2_with fail
      refine Hck.out.mono ?_
      rintro e w3 ⟨rfl, hb3⟩
      have k1 := (w21.bl hb3).all3
      have k2 := (w22.bl hb3).all3
      go_wp2_with fail
      refine bodyPost_ret (v := .tuple #[.agg #[.int .i64 0, .int .i64 0, .slice none 0 0], .int .i64 3]) (by simp [results, Tryd.results10, go_sem, k2]) rfl ⟨0, 0, none, 0, 0, by rw [HE.out], Res.zero _ _ _ _ _ (by rw [HE.out]; decide), ?_⟩
      exact (((w2b.trans hb3).setCell (by simp) _).setCell (by simp) _).setCell (by simp) _
    · by_cases c2 : 1000 < p
      · have he : noiseErr W H n p = 3 := by unfold noiseErr inB; simp [firstNZ, whenI, hz]; omega
        have HE := Lib.hid he
        have hq : (pageErr W H n == 0) = true := by simp [hz]
        clear hz he
        go_enter Tryd.func10, Tryd.ntmps10
        go_wp2_with fail
        refine Hck.out.mono ?_
        rintro e w3 ⟨rfl, hb3⟩
        have k1 := (w21.bl hb3).all3
        have k2 := (w22.bl hb3).all3
        go_wp2_with fail
        refine bodyPost_ret (v := .tuple #[.agg #[.int .i64 0, .int .i64 0, .slice none 0 0], .int .i64 3]) (by simp [results, Tryd.results10, go_sem, k2]) rfl ⟨0, 0, none, 0, 0, by rw [HE.out], Res.zero _ _ _ _ _ (by rw [HE.out]; decide), ?_⟩
        exact (((w2b.trans hb3).setCell (by simp) _).setCell (by simp) _).setCell (by simp) _
      · have he : noiseErr W H n p = 0 := by unfold noiseErr inB; simp [firstNZ, whenI, hz]; omega
        have HE := Lib.hid he
        have hq : (pageErr W H n == 0) = true := by simp [hz]
        obtain ⟨W, H, rfl, rfl, rfl, u1, u2, u3⟩ := page_nat hz
        have hpos := (sizeErr_zero (pageErr_zero hz).1)
        have Hpos := Lib.hid hpos
        simp only [Int.toNat_natCast]
        clear hz he hpos
        go_enter Tryd.func10, Tryd.ntmps10
        go_wp2_with fail
        refine Hck.out.mono ?_
        rintro e w3 ⟨rfl, hb3⟩
        have k1 := (w21.bl hb3).all3
        have k2 := (w22.bl hb3).all3
        have hcl := cloned_any W H A (W * H) c bs w3 (HA.out.bl hb3) (by omega)
        have Hcl := Lib.hid hcl
        clear hcl
        go_wp2_with fail
        refine Hcl.out.mono ?_
        rintro e w4 ⟨R, d, rfl, hown, hb4⟩
        have hp0 : 0 < W * H := Nat.mul_pos (by have := Hpos.out; omega) (by have := Hpos.out; omega)
        obtain ⟨g, cs0, hR, hg3, hBg, hcs0⟩ : ∃ g cs, R = some ⟨g, 0, none⟩ ∧ w3.heap.size ≤ g ∧ Blk w4 g 4 cs ∧ W * H ≤ cs.size := by
          rcases hown.2 with ⟨_, h0⟩ | ⟨g, cap, cur, hv, hb, hg, hn, _, hs, _⟩
          · omega
          · injection hv with h1 h2 h3
            exact ⟨g, cur, h1, hb, hg, by omega⟩
        subst hR
        obtain ⟨o, ho⟩ : ∃ o, o = w4.heap.size := ⟨_, rfl⟩
        obtain ⟨w5, hw5⟩ : ∃ x, x = w4.alloc (.cells #[.int .i64 W, .int .i64 H, .slice (some ⟨g, 0, none⟩) (W * H) d] 27) := ⟨_, rfl⟩
        have b5 : Blk w5 o 27 #[.int .i64 W, .int .i64 H, .slice (some ⟨g, 0, none⟩) (W * H) d] := by rw [hw5, ho]; exact Blk.new _ _ _
        have hb5 : Bl w2 w5 := by rw [hw5]; exact (hb3.trans hb4).alloc _
        have hBg5 : Blk w5 g 4 cs0 := by rw [hw5]; exact hBg.alloc _
        have hgo : g ≠ o := by have := hBg.lt; omega
        have hg2 : w2.heap.size ≤ g := Nat.le_trans hb3.le hg3
        clear hown k1 k2
        go_upto_region 7 with fail
        rw [← hw5, ← ho]
        have k5 := b5.all3
        clear hw5 ho hBg hb4 hg3 Hcl hb3 hp0
        go_wp2_with fail
        go_loopw [29] (fun u wr => ∃ k : Nat, k ≤ W * H ∧ u = .int .i64 k ∧ Bl w2 wr ∧ Blk wr o 27 #[.int .i64 W, .int .i64 H, .slice (some ⟨g, 0, none⟩) (W * H) d] ∧ ∃ cs : Array Value, Blk wr g 4 cs ∧ W * H ≤ cs.size ∧ ∀ i, i < k → cs[i]? = some (.bool (noiseN bs s p i))) (fun u _ => W * H - (RowKit.intOf u).toNat)
        case atStart => exact ⟨0, Nat.zero_le _, rfl, hb5, b5, cs0, hBg5, hcs0, fun i hi => absurd hi (Nat.not_lt_zero _)⟩
        case round =>
          obtain ⟨k, hk, rfl, hbr, hbo, cs, hbg, hsz, hdone⟩ := hrel
          clear k5
          by_cases hlt : k < W * H
          · obtain ⟨ad, u, rfl, hu, hc⟩ := (HA.out.bl hbr).at_ hlt
            have hl : k < bs.length := by have := HA.out.1; simp at this; omega
            have hu' : u = .bool (bs.getD k false) := by simpa [List.getD, hl] using hu.symm
            subst hu'
            obtain ⟨v, hv⟩ : ∃ v, v = bs.getD k false := ⟨_, rfl⟩
            have hnz : noiseN bs s p k = (!(v == decide (chanceI s (k : Int) < p))) := by rw [hv]; rfl
            rw [← hv] at hc
            have k1 := (w21.bl hbr).all3
            have k9 := hbo.all3
            obtain ⟨vi, ci⟩ : ∃ v, wr.cell? ⟨g, k, none⟩ = some v := ⟨cs[k]'(by omega), by rw [hbg.cell]; simp⟩
            have fi := hbg.frozen k
            have HNz := Lib.hid hnz; have HD := Lib.hid hdone
            clear hu hl hv hnz hdone
            go_wp2_with fail
            refine wp_region_flow [(true, 0), (true, 1), (true, 2), (true, 3), (true, 4), (true, 5), (true, 6), (true, 7), (true, 8), (true, 9), (true, 11), (false, 10), (true, 12), (true, 13), (true, 14), (false, 15)] (fun i => i == 15) (by kernel_rfl) (by kernel_rfl) (by kernel_rfl) (by kernel_rfl) ?_
            iterate 1
              apply Flow.calm2 _ _ rfl rfl
              · intro w' hb' K' hK'
                obtain ⟨hc', hf'⟩ := hb'.rule
                go_simp
                try go_ints
                exact hK'
              · intro K' hK'
                simp only [Act.put, List.setIfInBounds_toArray, List.set_cons_zero, List.set_cons_succ]
                exact hK'
            iterate 1
              apply Flow.calm2 _ _ rfl rfl
              · intro w' hb' K' hK'
                obtain ⟨hc', hf'⟩ := hb'.rule
                go_simp
                try go_ints
                exact hK'
              · intro K' hK'
                simp only [Act.put, List.setIfInBounds_toArray, List.set_cons_zero, List.set_cons_succ]
                exact hK'
            iterate 1
              apply Flow.mv _ rfl
              · intro K' hK'
                simp only [Act.put, Act.eval, List.setIfInBounds_toArray, List.set_cons_zero, List.set_cons_succ, arr_getD, List.getD_cons_zero, List.getD_cons_succ]
                exact hK'
            iterate 1
              apply Flow.calm2 _ _ rfl rfl
              · intro w' hb' K' hK'
                obtain ⟨hc', hf'⟩ := hb'.rule
                go_simp
                try go_ints
                exact hK'
              · intro K' hK'
                simp only [Act.put, List.setIfInBounds_toArray, List.set_cons_zero, List.set_cons_succ]
                exact hK'
            iterate 1
              apply Flow.calm2 _ _ rfl rfl
              · intro w' hb' K' hK'
                obtain ⟨hc', hf'⟩ := hb'.rule
                go_simp
                try go_ints
                exact hK'
              · intro K' hK'
                simp only [Act.put, List.setIfInBounds_toArray, List.set_cons_zero, List.set_cons_succ]
                exact hK'
            iterate 1
              apply Flow.mv _ rfl
              · intro K' hK'
                simp only [Act.put, Act.eval, List.setIfInBounds_toArray, List.set_cons_zero, List.set_cons_succ, arr_getD, List.getD_cons_zero, List.getD_cons_succ]
                exact hK'
            iterate 1
              apply Flow.calm2 _ _ rfl rfl
              · intro w' hb' K' hK'
                obtain ⟨hc', hf'⟩ := hb'.rule
                go_simp
                try go_ints
                exact hK'
              · intro K' hK'
                simp only [Act.put, List.setIfInBounds_toArray, List.set_cons_zero, List.set_cons_succ]
                exact hK'
            iterate 1
              apply Flow.calm2 _ _ rfl rfl
              · intro w' hb' K' hK'
                obtain ⟨hc', hf'⟩ := hb'.rule
                go_simp
                try go_ints
                exact hK'
              · intro K' hK'
                simp only [Act.put, List.setIfInBounds_toArray, List.set_cons_zero, List.set_cons_succ]
                exact hK'
            iterate 3
              apply Flow.mv _ rfl
              · intro K' hK'
                simp only [Act.put, Act.eval, List.setIfInBounds_toArray, List.set_cons_zero, List.set_cons_succ, arr_getD, List.getD_cons_zero, List.getD_cons_succ]
                exact hK'
            apply Flow.move rfl
            go_wp2_with fail
            refine (chance_any _ _ _).mono ?_
            rintro e w' ⟨rfl, rfl⟩
            go_wp2_with fail
            refine ⟨fun _ => (by first | exact HB1 | exact Bl.refl _), ?_⟩
            iterate 2
              apply Flow.calm2 _ _ rfl rfl
              · intro w' hb' K' hK'
                obtain ⟨hc', hf'⟩ := hb'.rule
                go_simp
                try go_ints
                exact hK'
              · intro K' hK'
                simp only [Act.put, List.setIfInBounds_toArray, List.set_cons_zero, List.set_cons_succ]
                exact hK'
            iterate 1
              apply Flow.calm2 _ _ rfl rfl
              · intro w' hb' K' hK'
                obtain ⟨hc', hf'⟩ := hb'.rule
                go_simp
                try go_ints
                exact hK'
              · intro K' hK'
                simp only [Act.put, List.setIfInBounds_toArray, List.set_cons_zero, List.set_cons_succ]
                exact hK'
            refine Flow.tail _ rfl ?_
            go_wp2_with fail
            refine ⟨⟨k + 1, hlt, by go_num, (hbr.setCell (by simpa using hg2) _).drew, (hbo.far (by simpa using Ne.symm hgo) _).drew, _, (hbg.set_ k _).drew, by simpa using hsz, fun i hi => ?_⟩, by simp [RowKit.intOf]; omega⟩
            by_cases e : k = i
            · subst e
              rw [HNz.out, Array.getElem?_setIfInBounds_self_of_lt (by omega)]
            · rw [Array.getElem?_setIfInBounds_ne e]
              exact HD.out i (by omega)
          · obtain rfl : k = W * H := by omega
            have k9 := hbo.all3
            have k2 := (w22.bl hbr).all3
            have q : g ≠ w.heap.size + 1 := by have := Lw2.out; omega
            have HD := Lib.hid hdone
            clear hdone
            go_wp2_with fail
            refine bodyPost_ret (v := .tuple #[.agg #[.int .i64 W, .int .i64 H, .slice (some ⟨g, 0, none⟩) (W * H) d], .int .i64 0]) (by simp [results, Tryd.results10, go_sem, k2]) rfl ⟨_, _, some ⟨g, 0, none⟩, _, d, by rw [HE.out], Res.page HE.out ?_ (fun ad h => by injection h with h; subst h; have := Lw2.out; show w.heap.size ≤ g; omega), ?_⟩
            · refine Blk.readsTo (((hbg.far (p := ⟨w.heap.size + 1, 0, none⟩) q _).far (p := ⟨w.heap.size + 1, 1, none⟩) q _).far (p := ⟨w.heap.size + 1, 2, none⟩) q _) (by simp [grid_length]) (fun i u hi => ?_)
              rw [List.getElem?_map] at hi
              rcases Nat.lt_or_ge i (W * H) with h | h
              · rw [grid_at W H _ i h] at hi
                have h2 := HD.out i h
                rw [h2]
                unfold noiseF at hi
                rw [show i / W * W + i % W = i by rw [Nat.mul_comm]; exact Nat.div_add_mod i W] at hi
                exact hi
              · rw [List.getElem?_eq_none (by rw [grid_length]; exact h)] at hi
                cases hi
            · exact (((w2b.trans hbr).setCell (by simp) _).setCell (by simp) _).setCell (by simp) _
  · have he : noiseErr W H n p = pageErr W H n := by unfold noiseErr; simp [firstNZ, hz]
    have HE := Lib.hid he
    have HZ := Lib.hid hz
    have hq : (pageErr W H n == 0) = false := by simp [hz]
    clear hz he
    go_enter Tryd.func10, Tryd.ntmps10
    go_wp2_with fail
    refine Hck.out.mono ?_
    rintro e w3 ⟨rfl, hb3⟩
    have k1 := (w21.bl hb3).all3
    have k2 := (w22.bl hb3).all3
    go_wp2_with fail
    refine bodyPost_ret (v := .tuple #[.agg #[.int .i64 0, .int .i64 0, .slice none 0 0], .int .i64 (pageErr W H n)]) (by simp [results, Tryd.results10, go_sem, k2]) rfl ⟨0, 0, none, 0, 0, by rw [HE.out], Res.zero _ _ _ _ _ (by rw [HE.out]; exact HZ.out), ?_⟩
    exact (((w2b.trans hb3).setCell (by simp) _).setCell (by simp) _).setCell (by simp) _

end Go.Proofs.YtjelhdpcaileiaaDoor


/-! bedref2.NoiseOf. -/
namespace Go.Proofs.YtjelhdpcaileiaaDoor
open Go.RowKit

set_option maxRecDepth 100000 in
set_option maxHeartbeats 2000000 in
theorem noiseOf1_any (g1 g2 g3 W H : Nat) (A : Option Addr) (ac : Nat) (bs : List Bool) (s p : Int) (x y : Nat) (w : World) (h1 : Blk w g1 27 #[.int .i64 W, .int .i64 H, .slice A (W * H) ac]) (h2 : Blk w g2 28 #[.int .u32 s]) (h3 : Blk w g3 3 #[.int .i64 p])
    (hA : Reads w 1 A (W * H) (bs.map .bool)) (hW : W ≤ 4000) (hH : H ≤ 4000) (hx : x < W) (hy : y < H) :
    Calls Tryd.prog 79 #[.int .i64 x, .int .i64 y, .pointer (some ⟨g1, 0, none⟩), .pointer (some ⟨g2, 0, none⟩), .pointer (some ⟨g3, 0, none⟩)] w fun e w' => e = .returned (.bool (noiseF bs W s p x y)) ∧ Bl w w' := by
  have k1 := h1.all3
  have k2 := h2.all1
  have k3 := h3.all1
  have hat := fun w1 (h : Bl w w1) => at_any W H A ac bs (x : Int) (y : Int) w1 (hA.bl h) hW hH
  rw [show atI bs W H (x : Int) (y : Int) = pix bs W x y from atI_in bs W H x y hx hy] at hat
  have hq : (0 : Int) ≤ (y : Int) * (W : Int) ∧ (y : Int) * (W : Int) ≤ 16000000 := by
    have h5 := Int.natCast_mul y W
    have h6 := Nat.mul_le_mul (show y ≤ 4000 by omega) hW
    omega
  obtain ⟨k, hk⟩ : ∃ k, k = y * W + x := ⟨_, rfl⟩
  have ek : (y : Int) * (W : Int) + (x : Int) = (k : Int) := by rw [hk]; simp
  have hf : noiseF bs W s p x y = (!(pix bs W x y == decide (chanceI s (k : Int) < p))) := by rw [hk]; rfl
  obtain ⟨v, hv⟩ : ∃ v, v = pix bs W x y := ⟨_, rfl⟩
  rw [← hv] at hat hf
  have Hat := Lib.hid hat; have Hf := Lib.hid hf; have H1 := Lib.hid h1; have H2 := Lib.hid h2; have H3 := Lib.hid h3
  clear hat hf hv hk hA h1 h2 h3
  go_enter Tryd.func79, Tryd.ntmps79
  go_wp2_with fail
  refine wp_region_flow [(true, 0), (true, 1), (true, 2), (true, 4), (true, 5), (true, 6), (true, 7), (true, 8), (true, 9), (true, 10), (true, 12), (false, 3), (false, 11), (true, 13), (true, 14), (true, 15)] (fun _ => false) (by kernel_rfl) (by kernel_rfl) (by kernel_rfl) (by kernel_rfl) ?_
  iterate 1
    apply Flow.calm2 _ _ rfl rfl
    · intro w' hb' K' hK'
      obtain ⟨hc', hf'⟩ := hb'.rule
      go_simp
      try go_ints
      exact hK'
    · intro K' hK'
      simp only [Act.put, List.setIfInBounds_toArray, List.set_cons_zero, List.set_cons_succ]
      exact hK'
  iterate 2
    apply Flow.mv _ rfl
    · intro K' hK'
      simp only [Act.put, Act.eval, List.setIfInBounds_toArray, List.set_cons_zero, List.set_cons_succ, arr_getD, List.getD_cons_zero, List.getD_cons_succ]
      exact hK'
  iterate 1
    apply Flow.calm2 _ _ rfl rfl
    · intro w' hb' K' hK'
      obtain ⟨hc', hf'⟩ := hb'.rule
      go_simp
      try go_ints
      exact hK'
    · intro K' hK'
      simp only [Act.put, List.setIfInBounds_toArray, List.set_cons_zero, List.set_cons_succ]
      exact hK'
  iterate 1
    apply Flow.mv _ rfl
    · intro K' hK'
      simp only [Act.put, Act.eval, List.setIfInBounds_toArray, List.set_cons_zero, List.set_cons_succ, arr_getD, List.getD_cons_zero, List.getD_cons_succ]
      exact hK'
  iterate 1
    apply Flow.calm2 _ _ rfl rfl
    · intro w' hb' K' hK'
      obtain ⟨hc', hf'⟩ := hb'.rule
      go_simp
      try go_ints
      exact hK'
    · intro K' hK'
      simp only [Act.put, List.setIfInBounds_toArray, List.set_cons_zero, List.set_cons_succ]
      exact hK'
  iterate 1
    apply Flow.calm2 _ _ rfl rfl
    · intro w' hb' K' hK'
      obtain ⟨hc', hf'⟩ := hb'.rule
      go_simp
      try go_ints
      exact hK'
    · intro K' hK'
      simp only [Act.put, List.setIfInBounds_toArray, List.set_cons_zero, List.set_cons_succ]
      exact hK'
  iterate 1
    apply Flow.calm2 _ _ rfl rfl
    · intro w' hb' K' hK'
      obtain ⟨hc', hf'⟩ := hb'.rule
      go_simp
      try go_ints
      exact hK'
    · intro K' hK'
      simp only [Act.put, List.setIfInBounds_toArray, List.set_cons_zero, List.set_cons_succ]
      exact hK'
  iterate 1
    apply Flow.mv _ rfl
    · intro K' hK'
      simp only [Act.put, Act.eval, List.setIfInBounds_toArray, List.set_cons_zero, List.set_cons_succ, arr_getD, List.getD_cons_zero]
      exact hK'
  iterate 1
    apply Flow.calm2 _ _ rfl rfl
    · intro w' hb' K' hK'
      obtain ⟨hc', hf'⟩ := hb'.rule
      go_simp
      try go_ints
      exact hK'
    · intro K' hK'
      simp only [Act.put, List.setIfInBounds_toArray, List.set_cons_zero, List.set_cons_succ]
      exact hK'
  iterate 1
    apply Flow.calm2 _ _ rfl rfl
    · intro w' hb' K' hK'
      obtain ⟨hc', hf'⟩ := hb'.rule
      go_simp
      try go_ints
      exact hK'
    · intro K' hK'
      simp only [Act.put, List.setIfInBounds_toArray, List.set_cons_zero, List.set_cons_succ]
      exact hK'
  apply Flow.move rfl
  go_wp2_with fail
  refine (Hat.out _ (Bl.refl _).drew).mono ?_
  rintro e w1 ⟨rfl, HB1⟩
  go_wp2_with fail
  refine ⟨fun _ => (by first | exact HB1 | exact Bl.refl _), ?_⟩
  apply Flow.move rfl
  go_wp2_with fail
  refine (chanceOf_any _ _ _).mono ?_
  rintro e w' ⟨rfl, rfl⟩
  go_wp2_with fail
  refine ⟨fun _ => (by first | exact HB2 | exact Bl.refl _), ?_⟩
  iterate 2
    apply Flow.calm2 _ _ rfl rfl
    · intro w' hb' K' hK'
      obtain ⟨hc', hf'⟩ := hb'.rule
      go_simp
      try go_ints
      exact hK'
    · intro K' hK'
      simp only [Act.put, List.setIfInBounds_toArray, List.set_cons_zero, List.set_cons_succ]
      exact hK'
  iterate 1
    apply Flow.asg _ rfl
    · intro K' hK'
      simp only [Act.put, Act.eval, List.setIfInBounds_toArray, List.set_cons_zero, List.set_cons_succ, arr_getD, List.getD_cons_zero, List.getD_cons_succ]
      exact hK'
  refine Flow.done ?_
  go_wp2_with fail
  go_ret
  exact ⟨ret_bool Hf.out.symm, Bl.ofDrew HB1⟩
set_option maxRecDepth 100000 in
set_option maxHeartbeats 1000000 in
theorem noiseOf_any (W H : Nat) (A : Option Addr) (ac : Nat) (bs : List Bool) (s p : Int) (w : World) (hA : Reads w 1 A (W * H) (bs.map .bool)) (hW : W ≤ 4000) (hH : H ≤ 4000) :
    Calls Tryd.prog 19 #[.agg #[.int .i64 W, .int .i64 H, .slice A (W * H) ac], .int .u32 s, .int .i64 p] w fun e w' => ∃ v, e = .returned v ∧ IsPage w' v W H ((grid W H (noiseF bs W s p)).map .bool) ∧ Bl w w' := by
  let w2 := ((((w).alloc (.cells #[.int .i64 W, .int .i64 H, .slice A (W * H) ac] 27)).alloc (.cells #[.int .u32 s] 28)).alloc (.cells #[.int .i64 p] 3)).alloc (.cells #[.int .i64 0, .int .i64 0, .slice none 0 0] 27)
  have w2b : Bl w w2 := ((((Bl.refl w).alloc _).alloc _).alloc _).alloc _
  have w21 : Blk w2 (w.heap.size) 27 #[.int .i64 W, .int .i64 H, .slice A (W * H) ac] := by
    have h0 := Blk.new (w) 27 #[.int .i64 W, .int .i64 H, .slice A (W * H) ac]
    exact (((h0.alloc _).alloc _).alloc _)
  have w22 : Blk w2 (w.heap.size + 1) 28 #[.int .u32 s] := by
    have h0 := Blk.new ((w).alloc (.cells #[.int .i64 W, .int .i64 H, .slice A (W * H) ac] 27)) 28 #[.int .u32 s]
    simp only [World.size_alloc] at h0
    exact ((h0.alloc _).alloc _)
  have w23 : Blk w2 (w.heap.size + 1 + 1) 3 #[.int .i64 p] := by
    have h0 := Blk.new (((w).alloc (.cells #[.int .i64 W, .int .i64 H, .slice A (W * H) ac] 27)).alloc (.cells #[.int .u32 s] 28)) 3 #[.int .i64 p]
    simp only [World.size_alloc] at h0
    exact (h0.alloc _)
  have w24 : Blk w2 (w.heap.size + 1 + 1 + 1) 27 #[.int .i64 0, .int .i64 0, .slice none 0 0] := by
    have h0 := Blk.new ((((w).alloc (.cells #[.int .i64 W, .int .i64 H, .slice A (W * H) ac] 27)).alloc (.cells #[.int .u32 s] 28)).alloc (.cells #[.int .i64 p] 3)) 27 #[.int .i64 0, .int .i64 0, .slice none 0 0]
    simp only [World.size_alloc] at h0
    exact h0
  have hbd : W * H ≤ 16000000 := by have := Nat.mul_le_mul hW hH; omega
  have hP : Paints Tryd.prog 79 #[.pointer (some ⟨w.heap.size, 0, none⟩), .pointer (some ⟨w.heap.size + 1, 0, none⟩), .pointer (some ⟨w.heap.size + 2, 0, none⟩)] Value.bool w2 W H (noiseF bs W s p) :=
    ⟨enters Tryd.func79 (by kernel_rfl) rfl, fun wy x y hb hx hy => noiseOf1_any _ _ _ W H A ac bs s p x y wy (w21.bl hb) (w22.bl hb) (w23.bl hb) ((hA.bl w2b).bl hb) hW hH hx hy⟩
  have HP := Lib.hid hP
  clear hP hA
  have k1 := w21.all3
  go_enter Tryd.func19, Tryd.ntmps19
  go_wp2_with fail
  refine (Made_any W H _ _ _ _ (by omega) (by omega) (by omega) HP.out).mono ?_
  rintro e w6 ⟨r, rfl, hpg, hb6⟩
  have kr3 := (w24.bl hb6).all3
  have hsz3 := w24.lt
  have hle6 := w2b.trans hb6
  obtain ⟨R, rc, rfl, hR, hRn⟩ := hpg
  have hRn' : ∀ ad, R = some ad → w.heap.size + 4 ≤ ad.block := fun ad h => by have := hRn ad h; omega
  have HR := Lib.hid hR; have HRn := Lib.hid hRn'
  clear hR hRn hRn'
  go_wp2_with fail
  refine bodyPost_ret (v := .agg #[.int .i64 W, .int .i64 H, .slice R (W * H) rc]) (by simp [results, Tryd.results19, go_sem, kr3]) rfl ⟨_, rfl, ⟨R, rc, rfl, ?_⟩, ?_⟩
  · exact ((HR.out.store HRn.out (by simp) _).store HRn.out (by simp) _).store HRn.out (by simp) _
  · exact (((hle6.setCell (by simp; omega) _).setCell (by simp; omega) _).setCell (by simp; omega) _)

end Go.Proofs.YtjelhdpcaileiaaDoor
