/- What holds of a font whose error is 0. -/
import Derived.Test.YtfdailibecgkhaaDoorMClaimShapes2
import Derived.Test.YtfdailibecgkhaaDoorMClaimShapes0
import Derived.Test.YtfdailibecgkhaaDoorMClaimShapes1

namespace Go.Proofs.YtfdailibecgkhaaDoor
open Go.RowKit

/-- A table of numbers if the error is 0, nothing else. -/
def TabRes (w : World) (err : Int) (N : Nat) (f : Nat → Int) (P : Option Addr) (m : Nat) : Prop :=
  (err = 0 → m = N ∧ Reads w 1 P m ((tabL m f).map (.int .i64))) ∧ (err ≠ 0 → m = 0 ∧ P = none)
theorem TabRes.bl {w w' : World} {err : Int} {N : Nat} {f : Nat → Int} {P : Option Addr} {m : Nat} (h : TabRes w err N f P m) (hb : Bl w w') : TabRes w' err N f P m :=
  ⟨fun e => ⟨(h.1 e).1, (h.1 e).2.bl hb⟩, h.2⟩
def rowI (bs : List Bool) (W k : Nat) : Int := ((rowN bs W k : Nat) : Int)
def colI (bs : List Bool) (W H k : Nat) : Int := ((colN bs W H k : Nat) : Int)
def valI (zs : List Int) (n k : Nat) : Int := ((cntV zs n k : Nat) : Int)

set_option maxRecDepth 100000 in
set_option maxHeartbeats 2000000 in
theorem counted_any (W H : Nat) (A : Option Addr) (ac : Nat) (bs : List Bool) (many : Nat) (num : Nat → Nat) (kf : FuncId) (cap : Array Value) (w : World) (hA : Reads w 1 A (W * H) (bs.map .bool)) (hbd : W * H ≤ 1048576) (hmany : many ≤ 4000)
    (hent : ∀ args w, (callFunc kf args).run Tryd.prog w = .ok (.enter kf args) w)
    (hnum : ∀ wx (i : Nat), Bl w wx → i < W * H → Calls Tryd.prog kf (#[.int .i64 i] ++ cap) wx fun e w' => e = .returned (.int .i64 ((num i : Nat) : Int)) ∧ Bl wx w') (hlt : ∀ i, i < W * H → num i < many) :
    Calls Tryd.prog 42 #[.agg #[.int .i64 W, .int .i64 H, .slice A (W * H) ac], .int .i64 many, .func (.func kf) #[] cap] w fun e w' =>
      ∃ g, e = .returned (.slice (some ⟨g, 0, none⟩) many many) ∧ w.heap.size ≤ g ∧ Blk w' g 3 (tabI many fun k => ((cntBy bs num (W * H) k : Nat) : Int)) ∧ Bl w w' := by
  let w2 := (w).alloc (.cells #[.int .i64 W, .int .i64 H, .slice A (W * H) ac] 27)
  have w2b : Bl w w2 := (Bl.refl w).alloc _
  have w21 : Blk w2 (w.heap.size) 27 #[.int .i64 W, .int .i64 H, .slice A (W * H) ac] := by
    have h0 := Blk.new (w) 27 #[.int .i64 W, .int .i64 H, .slice A (W * H) ac]
    exact h0
  have k1 := w21.all3
  have lw2 : w2.heap.size = w.heap.size + 1 := by simp [w2]
  have hmk := run_make_row' (P := Tryd.prog) 61 3 (.int .i64 0) 8 Tryd.underlying61 info_int rfl .i64 .i64 many (by omega) (by omega)
  rw [tabI_made] at hmk
  have HA := Lib.hid hA; have Hnum := Lib.hid hnum; have Hlt := Lib.hid hlt
  have start : Blk (w2.alloc (.cells (tabI many fun _ => 0) 3)) (w.heap.size + 1) 3 (tabI many fun k => ((cntBy bs num 0 k : Nat) : Int)) := by
    have := Blk.new w2 3 (tabI many fun _ => 0)
    rw [lw2] at this
    exact this
  have Start := Lib.hid start
  clear hA hnum hlt start
  go_enter Tryd.func42, Tryd.ntmps42
  go_wp2_with fail
  go_loopw [15] (fun u wr => ∃ i : Nat, i ≤ W * H ∧ u = .int .i64 i ∧ Bl w2 wr ∧ Blk wr (w.heap.size + 1) 3 (tabI many fun k => ((cntBy bs num i k : Nat) : Int))) (fun u _ => W * H - (intOf u).toNat)
  case atStart => exact ⟨0, Nat.zero_le _, rfl, (Bl.refl _).alloc _, Start.out⟩
  case round =>
    clear k1
    obtain ⟨i, hi, rfl, hbr, hbo⟩ := hrel
    have k1 := (w21.bl hbr).all3
    by_cases hlt : i < W * H
    · have il : (i : Int) < (W : Int) * (H : Int) := by have := Int.natCast_mul W H; omega
      obtain ⟨ad, ua, eA, hu, hca⟩ := (HA.out.bl (w2b.trans hbr)).at_ hlt
      have hua : ua = .bool (bs.getD i false) := by
        simp only [List.getElem?_map, Option.map_eq_some_iff] at hu
        obtain ⟨b, hb1, hb2⟩ := hu
        rw [← hb2, List.getD, hb1]; rfl
      clear hu
      subst hua eA
      have hst := fun k => cntBy_succ bs num i k
      have hle := fun k => cntBy_le bs num i k
      have hn := Hlt.out i hlt
      have hcall := fun wx h => Hnum.out wx i (w2b.trans h) hlt
      obtain ⟨va, hva⟩ : ∃ v, v = bs.getD i false := ⟨_, rfl⟩
      obtain ⟨a, ha⟩ : ∃ a, a = num i := ⟨_, rfl⟩
      rw [← ha] at hn
      simp only [← ha] at hcall hst
      simp only [← hva] at hst hca
      have Hst := Lib.hid hst; have Hle := Lib.hid hle; have Hcall := Lib.hid hcall
      clear hst hle hcall hva ha
      cases va
      · have hsame : tabI many (fun k => ((cntBy bs num i k : Nat) : Int)) = tabI many (fun k => ((cntBy bs num (i + 1) k : Nat) : Int)) :=
          tabI_congr fun k _ => by rw [Hst.out k]; simp [b1]
        rw [hsame] at hbo
        clear hsame
        go_wp2_with fail
        exact ⟨⟨i + 1, hlt, by go_num, hbr, hbo⟩, by simp [intOf]; omega⟩
      · go_wp2_with fail
        refine (Hcall.out _ hbr).mono ?_
        rintro e w4 ⟨rfl, hb4⟩
        have hbr4 := hbr.trans hb4
        have hbo4 := hbo.bl hb4
        have kc := hbo4.tabAt hn
        have kf := hbo4.frozen a
        have hset := hbo4.tabSet (f' := fun k => ((cntBy bs num (i + 1) k : Nat) : Int)) a (((cntBy bs num i a : Nat) : Int) + 1) (fun k hk => by
          rw [Hst.out k]
          by_cases e : k = a
          · subst e; simp [b1]
          · have : ¬ (a = k) := fun h => e h.symm
            simp [e, this, b1])
        have hcb := Hle.out a
        obtain ⟨c, hc⟩ : ∃ c, c = cntBy bs num i a := ⟨_, rfl⟩
        rw [← hc] at kc hset hcb
        have Hset := Lib.hid hset
        clear hset hc k1
        go_wp2_with fail
        exact ⟨⟨i + 1, hlt, by go_num, hbr4.setCell (by simp; omega) _, Hset.out⟩, by simp [intOf]; omega⟩
    · obtain rfl : i = W * H := by omega
      go_wp2_with fail
      go_ret
      exact ⟨_, rfl, by omega, hbo, w2b.trans hbr⟩

set_option maxHeartbeats 400000 in
theorem columns1_any (p W : Nat) (H : Int) (v : Value) (i : Nat) (w : World) (hp : Blk w p 27 #[.int .i64 W, .int .i64 H, v]) (hW : 1 ≤ W ∧ W ≤ 4000) (hi : i ≤ 1048576) :
    Calls Tryd.prog 43 #[.int .i64 i, .pointer (some ⟨p, 0, none⟩)] w fun e w' => e = .returned (.int .i64 ((i % W : Nat) : Int)) ∧ Bl w w' := by
  have kp := hp.all3
  have hWp : ¬ (W = 0) := by omega
  obtain ⟨q, hq⟩ : ∃ q, q = i % W := ⟨_, rfl⟩
  have e1 : (i : Int) % (W : Int) = (q : Int) := by rw [hq]; simp
  have e2 := hq.symm
  have hqb : q ≤ i := by rw [hq]; first | exact Nat.div_le_self _ _ | exact Nat.mod_le _ _
  rw [← hq]
  clear hq
  go_enter Tryd.func43, Tryd.ntmps43
  go_wp2_with fail
  go_ret
  exact ⟨by first | rfl | exact ret_int e1, Bl.refl _⟩
set_option maxRecDepth 100000 in
set_option maxHeartbeats 1000000 in
theorem columns_any (W H : Int) (A : Option Addr) (an ac : Nat) (bs : List Bool) (w : World) (hA : Reads w 1 A an (bs.map .bool)) :
    Calls Tryd.prog 34 #[.agg #[.int .i64 W, .int .i64 H, .slice A an ac]] w fun e w' =>
      ∃ P m c, e = .returned (.tuple #[.slice P m c, .int .i64 (pageErr W H an)]) ∧ TabRes w' (pageErr W H an) W.toNat (colI bs W.toNat H.toNat) P m ∧ Bl w w' := by
  let w2 := (w).alloc (.cells #[.int .i64 W, .int .i64 H, .slice A an ac] 27)
  have w2b : Bl w w2 := (Bl.refl w).alloc _
  have w21 : Blk w2 (w.heap.size) 27 #[.int .i64 W, .int .i64 H, .slice A an ac] := by
    have h0 := Blk.new (w) 27 #[.int .i64 W, .int .i64 H, .slice A an ac]
    exact h0
  have k1 := w21.all3
  by_cases hp : pageErr W H an = 0
  · have hz := sizeErr_zero (pageErr_zero hp).1
    have Hp := Lib.hid hp
    obtain ⟨W, H, rfl, rfl, rfl, u1, u2, u3⟩ := page_nat hp
    have hW : 1 ≤ W ∧ W ≤ 4000 := by omega
    have HA := Lib.hid (hA.bl w2b)
    clear hz hA
    have ent := enters Tryd.func43 (by kernel_rfl) rfl
    go_enter Tryd.func34, Tryd.ntmps34
    go_wp2_with fail
    refine (checkBits_any _ _ _ _ _ _).mono ?_
    rintro e w3 ⟨rfl, hb3⟩
    have k3 := (w21.bl hb3).all3
    clear k1
    go_wp2_with fail
    refine (counted_any W H A ac bs W (fun i => i % W) 43 #[.pointer (some ⟨w.heap.size, 0, none⟩)] _ (HA.out.bl hb3) u3 (by omega) ent
      (fun wx i hb hi => columns1_any _ W H _ i wx ((w21.bl hb3).bl hb) hW (by omega)) (fun i hi => (place_parts hi).1)).mono ?_
    rintro e w4 ⟨g, rfl, hg, hbk, hb4⟩
    have e : tabI W (fun k => ((cntBy bs (fun i => i % W) (W * H) k : Nat) : Int)) = tabI W (colI bs W H) := tabI_congr fun k hk => by rw [cntBy_cols bs W H k hk]; rfl
    rw [e] at hbk
    have hp := Hp.out
    go_wp2_with fail
    refine bodyPost_ret (v := .tuple #[.slice (some ⟨g, 0, none⟩) W W, .int .i64 0]) (by simp [results, Tryd.results34, go_sem]) rfl ⟨_, _, _, by rw [hp], ⟨fun _ => ⟨by simp, ?_⟩, fun h => absurd hp h⟩, (w2b.trans hb3).trans hb4⟩
    simpa using hbk.tabReads
  · have hq : (pageErr W H an != 0) = true := by simp [hp]
    have Hp := Lib.hid hp
    clear hp
    go_enter Tryd.func34, Tryd.ntmps34
    go_wp2_with fail
    refine (checkBits_any _ _ _ _ _ _).mono ?_
    rintro e w3 ⟨rfl, hb3⟩
    go_wp2_with fail
    refine bodyPost_ret (v := .tuple #[.slice none 0 0, .int .i64 (pageErr W H an)]) (by simp [results, Tryd.results34, go_sem]) rfl ⟨_, _, _, rfl, ⟨fun h => absurd h Hp.out, fun _ => ⟨rfl, rfl⟩⟩, w2b.trans hb3⟩

/-! ### Histogram -/
end Go.Proofs.YtfdailibecgkhaaDoor


/-! slices.Equal of numbers; blank pages; 'pages'. -/
namespace Go.Proofs.YtfdailibecgkhaaDoor
open Go.RowKit

theorem eq_of_takes (xs ys : List Int) (hl : xs.length = ys.length) (h : ∀ j, j < xs.length → xs[j]? = ys[j]?) : xs = ys := by
  apply List.ext_getElem? 
  intro i
  rcases Nat.lt_or_ge i xs.length with hi | hi
  · exact h i hi
  · rw [List.getElem?_eq_none hi, List.getElem?_eq_none (by omega)]

/-! ### blank pages -/
end Go.Proofs.YtfdailibecgkhaaDoor


/-! bedref2.InkOf, RowsOf, ColumnsOf, Ends, BoundsOf. -/
namespace Go.Proofs.YtfdailibecgkhaaDoor
open Go.RowKit

set_option maxRecDepth 100000 in
set_option maxHeartbeats 4000000 in
theorem inkOf_any (W H X Y BW BH : Nat) (A : Option Addr) (ac : Nat) (bs : List Bool) (w : World) (hA : Reads w 1 A (W * H) (bs.map .bool)) (hW : W ≤ 4000) (hH : H ≤ 4000) (hX : X + BW ≤ W) (hY : Y + BH ≤ H) :
    Calls Tryd.prog 37 #[.agg #[.int .i64 W, .int .i64 H, .slice A (W * H) ac], .agg #[.int .i64 X, .int .i64 Y, .int .i64 BW, .int .i64 BH]] w fun e w' => e = .returned (.int .i64 (inkN bs W X Y BW BH)) ∧ Bl w w' := by
  let w2 := ((w).alloc (.cells #[.int .i64 W, .int .i64 H, .slice A (W * H) ac] 27)).alloc (.cells #[.int .i64 X, .int .i64 Y, .int .i64 BW, .int .i64 BH] 50)
  have w2b : Bl w w2 := ((Bl.refl w).alloc _).alloc _
  have w21 : Blk w2 (w.heap.size) 27 #[.int .i64 W, .int .i64 H, .slice A (W * H) ac] := by
    have h0 := Blk.new (w) 27 #[.int .i64 W, .int .i64 H, .slice A (W * H) ac]
    exact (h0.alloc _)
  have w22 : Blk w2 (w.heap.size + 1) 50 #[.int .i64 X, .int .i64 Y, .int .i64 BW, .int .i64 BH] := by
    have h0 := Blk.new ((w).alloc (.cells #[.int .i64 W, .int .i64 H, .slice A (W * H) ac] 27)) 50 #[.int .i64 X, .int .i64 Y, .int .i64 BW, .int .i64 BH]
    simp only [World.size_alloc] at h0
    exact h0
  have k2 := w22.all4
  have HA := Lib.hid (hA.bl w2b)
  clear hA
  go_enter Tryd.func37, Tryd.ntmps37
  go_wp2_with fail
  go_loopw [5, 6] (fun n u wr => ∃ j : Nat, j ≤ BH ∧ u = .int .i64 ((Y : Int) + j) ∧ n = .int .i64 (inkN bs W X Y BW j) ∧ Bl w2 wr) (fun _ u _ => Y + BH - (intOf u).toNat)
  case atStart => exact ⟨0, Nat.zero_le _, by simp, rfl, Bl.refl _⟩
  case round =>
    clear k2
    obtain ⟨j, hj, rfl, rfl, hbr⟩ := hrel
    have k2 := (w22.bl hbr).all4
    by_cases hlt : j < BH
    · have d1 : (Y : Int) + (j : Int) < (Y : Int) + (BH : Int) := by omega
      go_wp2_with fail
      go_loopw [5, 7] (fun n u wr => ∃ i : Nat, i ≤ BW ∧ u = .int .i64 ((X : Int) + i) ∧ n = .int .i64 (((inkN bs W X Y BW j + sumN (fun i => b1 (pix bs W (X + i) (Y + j))) i : Nat)) : Int) ∧ Bl w2 wr) (fun _ u _ => X + BW - (intOf u).toNat)
      case atStart => exact ⟨0, Nat.zero_le _, by simp, rfl, hbr⟩
      case round =>
        clear k2 hbr
        rename_i wo _ _ _
        obtain ⟨i, hi, rfl, rfl, hbr⟩ := hrel
        have k1 := (w21.bl hbr).all3
        have k2 := (w22.bl hbr).all4
        by_cases hlt2 : i < BW
        · have d2 : (X : Int) + (i : Int) < (X : Int) + (BW : Int) := by omega
          have hat := at_any W H A ac bs (((X + i : Nat)) : Int) (((Y + j : Nat)) : Int) wr (HA.out.bl hbr) hW hH
          rw [atI_in bs W H (X + i) (Y + j) (by omega) (by omega)] at hat
          have hst : sumN (fun i => b1 (pix bs W (X + i) (Y + j))) (i + 1) = sumN (fun i => b1 (pix bs W (X + i) (Y + j))) i + b1 (pix bs W (X + i) (Y + j)) := rfl
          have hle : sumN (fun i => b1 (pix bs W (X + i) (Y + j))) i ≤ i * 1 := sumN_le (fun _ => b1_le _) i
          have hle2 : inkN bs W X Y BW j ≤ j * BW := sumN_le (fun k => by have := sumN_le (f := fun i => b1 (pix bs W (X + i) (Y + k))) (c := 1) (fun _ => b1_le _) BW; simpa using this) j
          have hle3 := Nat.mul_le_mul (show j ≤ 4000 by omega) (show BW ≤ 4000 by omega)
          obtain ⟨n, hn⟩ : ∃ n, n = sumN (fun i => b1 (pix bs W (X + i) (Y + j))) i := ⟨_, rfl⟩
          obtain ⟨va, hva⟩ : ∃ v, v = pix bs W (X + i) (Y + j) := ⟨_, rfl⟩
          obtain ⟨q, hq⟩ : ∃ q, q = inkN bs W X Y BW j := ⟨_, rfl⟩
          rw [← hn, ← hva] at hst
          rw [← hn] at hle ⊢
          rw [← hva] at hat
          rw [← hq] at hle2 ⊢
          have ex : (((X + i : Nat)) : Int) = (X : Int) + (i : Int) := by simp
          have ey : (((Y + j : Nat)) : Int) = (Y : Int) + (j : Int) := by simp
          rw [ex, ey] at hat
          have Hat := Lib.hid hat; have Hst := Lib.hid hst; have Hq := Lib.hid hq
          clear hat hst hn hva ex ey hq
          cases va
          all_goals
            go_wp2_with fail
            refine Hat.out.mono ?_
            rintro e w1 ⟨rfl, hb1⟩
            go_wp2_with fail
            exact ⟨⟨i + 1, hlt2, by go_num, by rw [Hst.out]; first | (congr 1; done) | (congr 1; simp [b1]; done) | (congr 1; simp [b1]; omega), hbr.trans hb1⟩, by simp [intOf]; omega⟩
        · obtain rfl : i = BW := by omega
          go_wp2_with fail
          exact ⟨⟨j + 1, hlt, by go_num, rfl, hbr⟩, by simp [intOf]; omega⟩
    · obtain rfl : j = BH := by omega
      go_wp2_with fail
      go_ret
      exact ⟨rfl, w2b.trans hbr⟩

set_option maxRecDepth 100000 in
set_option maxHeartbeats 2000000 in
theorem columnsOf_any (W H : Nat) (A : Option Addr) (ac : Nat) (bs : List Bool) (w : World) (hA : Reads w 1 A (W * H) (bs.map .bool)) (hW : W ≤ 4000) (hH : H ≤ 4000) :
    Calls Tryd.prog 24 #[.agg #[.int .i64 W, .int .i64 H, .slice A (W * H) ac]] w fun e w' => ∃ P c, e = .returned (.slice P W c) ∧ Reads w' 1 P W ((tabL W (colI bs W H)).map (.int .i64)) ∧ Bl w w' := by
  let w2 := (w).alloc (.cells #[.int .i64 W, .int .i64 H, .slice A (W * H) ac] 27)
  have w2b : Bl w w2 := (Bl.refl w).alloc _
  have w21 : Blk w2 (w.heap.size) 27 #[.int .i64 W, .int .i64 H, .slice A (W * H) ac] := by
    have h0 := Blk.new (w) 27 #[.int .i64 W, .int .i64 H, .slice A (W * H) ac]
    exact h0
  have k1 := w21.all3
  have lw2 : w2.heap.size = w.heap.size + 1 := by simp [w2]
  have HA := Lib.hid (hA.bl w2b)
  have ho0 : w2.ownsRow (w.heap.size + 1) 3 1 (.slice none 0 0) 0 ((tabL 0 (colI bs W H)).map (.int .i64)) := World.ownsRow_nil _ _ _ _
  have Ho0 := Lib.hid ho0
  clear hA ho0
  go_enter Tryd.func24, Tryd.ntmps24
  go_wp2_with fail
  go_loopw [3, 7] (fun v u wr => ∃ k : Nat, k ≤ W ∧ u = .int .i64 k ∧ Bl w2 wr ∧ wr.ownsRow (w.heap.size + 1) 3 1 v k ((tabL k (colI bs W H)).map (.int .i64))) (fun _ u _ => W - (intOf u).toNat)
  case atStart => exact ⟨0, Nat.zero_le _, rfl, Bl.refl _, Ho0.out⟩
  case round =>
    clear k1
    obtain ⟨k, hk, rfl, hbr, hown⟩ := hrel
    have k1 := (w21.bl hbr).all3
    by_cases hlt : k < W
    · have hcall := inkOf_any W H k 0 1 H A ac bs wr (HA.out.bl hbr) hW hH (by omega) (by omega)
      rw [ink_col] at hcall
      have htl : (tabL (k + 1) (colI bs W H)).map (Value.int .i64) = (tabL k (colI bs W H)).map (Value.int .i64) ++ [Value.int .i64 ((colI bs W H) k)] := by simp [tabL, List.range_succ]
      have Hcall := Lib.hid hcall; have Htl := Lib.hid htl
      clear hcall htl
      go_wp2_with fail
      refine Hcall.out.mono ?_
      rintro e w1 ⟨rfl, hb1⟩
      have hown1 := own_bl hown hb1
      have hbr1 := hbr.trans hb1
      clear hown
      go_wp2_with (at_builtin; refine wpList_append_one rfl (.tmp 10) (.tmp 17) 61 rfl 3 (.int .i64 0) 8 Tryd.underlying61 info_int rfl (w.heap.size + 1) _ _ _ rfl _ rfl rfl hbr1 (by omega) (by have := hbr1.le; omega) hown1 (by omega) (by unfold maxLen; omega) ?_; intro v' w' hown' hb' _)
      exact ⟨⟨k + 1, hlt, by go_num, hb', by rw [Htl.out]; exact hown'⟩, by simp [intOf]; omega⟩
    · obtain rfl : k = W := by omega
      obtain ⟨P, c, rfl, hp⟩ := own_reads hown
      go_wp2_with fail
      go_ret
      exact ⟨_, _, rfl, hp, w2b.trans hbr⟩

/-! ### Ends -/
end Go.Proofs.YtfdailibecgkhaaDoor


/-! What holds of a font whose error is 0. -/
namespace Go.Proofs.YtfdailibecgkhaaDoor
open Go.RowKit

theorem firstNZ_zero {es : List Int} (h : firstNZ es = 0) : ∀ e ∈ es, e = 0 := by
  induction es with
  | nil => intro e he; cases he
  | cons x es ih =>
    have h' : (if x = 0 then firstNZ es else x) = 0 := h
    by_cases h0 : x = 0
    · rw [if_pos h0] at h'
      intro e he
      rcases List.mem_cons.1 he with rfl | he
      · exact h0
      · exact ih h' e he
    · rw [if_neg h0] at h'
      exact absurd h' h0
theorem whenI_zero {b : Bool} {n : Int} (h : whenI b n = 0) (hn : n ≠ 0) : b = false := by
  cases b
  · rfl
  · exact absurd h hn
theorem ltrsErr_zero {ht : Int} {ls : List Ltr} : ∀ {prev : List (List UInt8)}, ltrsErr ht prev ls = 0 → ∀ l ∈ ls, textB l.text = true ∧ pageErr l.W l.H l.m = 0 ∧ l.H = ht ∧ l.W ≤ 64 := by
  induction ls with
  | nil => intro prev _ l hl; cases hl
  | cons x ls ih =>
    intro prev h l hl
    have h' : (if ltrErr ht prev x = 0 then ltrsErr ht (prev ++ [x.text]) ls else ltrErr ht prev x) = 0 := h
    by_cases h0 : ltrErr ht prev x = 0
    · rw [if_pos h0] at h'
      rcases List.mem_cons.1 hl with rfl | hl
      · have hz := firstNZ_zero h0
        have k1 := whenI_zero (hz _ (by simp : whenI (!textB l.text) 2 ∈ _)) (by decide)
        have k2 := hz (pageErr l.W l.H l.m) (by simp)
        have k3 := whenI_zero (hz (whenI (l.H != ht) 11) (by simp)) (by decide)
        have k4 := whenI_zero (hz (whenI (decide (64 < l.W)) 4) (by simp)) (by decide)
        refine ⟨by simpa using k1, k2, by simpa using k3, ?_⟩
        have := of_decide_eq_false k4
        omega
      · exact ih h' l hl
    · rw [if_neg h0] at h'
      exact absurd h' h0
theorem fontErr_zero {nm : Bool} {ht gap sp : Int} {ls : List Ltr} (h : fontErr nm ht gap sp ls = 0) : (nm = true ∧ rangeB ht gap sp = true ∧ gap < sp ∧ ls.length ≠ 0 ∧ ls.length ≤ 200 ∧ 1 ≤ ht ∧ ht ≤ 64) ∧ ∀ l ∈ ls, textB l.text = true ∧ pageErr l.W l.H l.m = 0 ∧ l.H = ht ∧ l.W ≤ 64 := by
  have h' : (if fontHead nm ht gap sp ls.length = 0 then ltrsErr ht [] ls else fontHead nm ht gap sp ls.length) = 0 := h
  by_cases h0 : fontHead nm ht gap sp ls.length = 0
  · rw [if_pos h0] at h'
    refine ⟨?_, ltrsErr_zero h'⟩
    have hz := firstNZ_zero h0
    have k1 := whenI_zero (hz (whenI (!nm) 5) (by simp)) (by decide)
    have k2 := whenI_zero (hz (whenI (!rangeB ht gap sp) 3) (by simp)) (by decide)
    have k3 := of_decide_eq_false (whenI_zero (hz (whenI (decide (sp ≤ gap)) 7) (by simp)) (by decide))
    have k4 := of_decide_eq_false (whenI_zero (hz (whenI (decide (ls.length = 0)) 9) (by simp)) (by decide))
    have k5 := of_decide_eq_false (whenI_zero (hz (whenI (decide (200 < ls.length)) 4) (by simp)) (by decide))
    have k2' : rangeB ht gap sp = true := by simpa using k2
    have k6 : inB ht 1 64 = true := by
      unfold rangeB at k2'
      simp only [Bool.and_eq_true] at k2'
      exact k2'.1
    have k7 := inB_true.1 k6
    exact ⟨by simpa using k1, k2', by omega, k4, by omega, k7.1, k7.2⟩
  · rw [if_neg h0] at h'
    exact absurd h' h0

end Go.Proofs.YtfdailibecgkhaaDoor
