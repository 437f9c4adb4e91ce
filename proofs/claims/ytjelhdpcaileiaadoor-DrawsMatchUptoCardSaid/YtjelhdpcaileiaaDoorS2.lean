/- A region in which two operations that make memory may come up in either order: reads and reckonings first, then both ways. No condition. -/
import Derived.Test.YtjelhdpcaileiaaDoorS1
import Derived.Test.YtjelhdpcaileiaaDoorS0

namespace Go.Proofs.YtjelhdpcaileiaaDoor
open Go.RowKit

/-- A table of numbers if the error is 0, nothing else. -/
def TabRes (w : World) (err : Int) (N : Nat) (f : Nat → Int) (P : Option Addr) (m : Nat) : Prop :=
  (err = 0 → m = N ∧ Reads w 1 P m ((tabL m f).map (.int .i64))) ∧ (err ≠ 0 → m = 0 ∧ P = none)
theorem TabRes.bl {w w' : World} {err : Int} {N : Nat} {f : Nat → Int} {P : Option Addr} {m : Nat} (h : TabRes w err N f P m) (hb : Bl w w') : TabRes w' err N f P m :=
  ⟨fun e => ⟨(h.1 e).1, (h.1 e).2.bl hb⟩, h.2⟩
def rowI (bs : List Bool) (W k : Nat) : Int := ((rowN bs W k : Nat) : Int)
def colI (bs : List Bool) (W H k : Nat) : Int := ((colN bs W H k : Nat) : Int)
def valI (zs : List Int) (n k : Nat) : Int := ((cntV zs n k : Nat) : Int)

set_option maxRecDepth 100000 in
set_option maxHeartbeats 2000000 in
theorem counted_any (W H : Nat) (A : Option Addr) (ac : Nat) (bs : List Bool) (many : Nat) (num : Nat → Nat) (kf : FuncId) (cap : Array Value) (w : World) (hA : Reads w 1 A (W * H) (bs.map .bool)) (hbd : W * H ≤ 1048576) (hmany : many ≤ 4000)
    (hent : ∀ args w, (callFunc kf args).run Tryd.prog w = .ok (.enter kf args) w)
    (hnum : ∀ wx (i : Nat), Bl w wx → i < W * H → Calls Tryd.prog kf (#[.int .i64 i] ++ cap) wx fun e w' => e = .returned (.int .i64 ((num i : Nat) : Int)) ∧ Bl wx w') (hlt : ∀ i, i < W * H → num i < many) :
    Calls Tryd.prog 183 #[.agg #[.int .i64 W, .int .i64 H, .slice A (W * H) ac], .int .i64 many, .func (.func kf) #[] cap] w fun e w' =>
      ∃ g, e = .returned (.slice (some ⟨g, 0, none⟩) many many) ∧ w.heap.size ≤ g ∧ Blk w' g 3 (tabI many fun k => ((cntBy bs num (W * H) k : Nat) : Int)) ∧ Bl w w' := by
  let w2 := (w).alloc (.cells #[.int .i64 W, .int .i64 H, .slice A (W * H) ac] 27)
  have w2b : Bl w w2 := (Bl.refl w).alloc _
  have w21 : Blk w2 (w.heap.size) 27 #[.int .i64 W, .int .i64 H, .slice A (W * H) ac] := by
    have h0 := Blk.new (w) 27 #[.int .i64 W, .int .i64 H, .slice A (W * H) ac]
    exact h0
  have k1 := w21.all3
  have lw2 : w2.heap.size = w.heap.size + 1 := by simp [w2]
  have hmk := run_make_row' (P := Tryd.prog) 62 3 (.int .i64 0) 8 Tryd.underlying62 info_int rfl .i64 .i64 many (by omega) (by omega)
  rw [tabI_made] at hmk
  have HA := Lib.hid hA; have Hnum := Lib.hid hnum; have Hlt := Lib.hid hlt
  have start : Blk (w2.alloc (.cells (tabI many fun _ => 0) 3)) (w.heap.size + 1) 3 (tabI many fun k => ((cntBy bs num 0 k : Nat) : Int)) := by
    have := Blk.new w2 3 (tabI many fun _ => 0)
    rw [lw2] at this
    exact this
  have Start := Lib.hid start
  clear hA hnum hlt start
  go_enter Tryd.func183, Tryd.ntmps183
  go_wp2_with fail
  go_loopw [15] (fun u wr => ∃ i : Nat, i ≤ W * H ∧ u = .int .i64 i ∧ Bl w2 wr ∧ Blk wr (w.heap.size + 1) 3 (tabI many fun k => ((cntBy bs num i k : Nat) : Int))) (fun u _ => W * H - (intOf u).toNat)
  case atStart => exact ⟨0, Nat.zero_le _, rfl, (Bl.refl _).alloc _, Start.out⟩
  case round =>
    clear k1
    obtain ⟨i, hi, rfl, hbr, hbo⟩ := hrel
    have k1 := (w21.bl hbr).all3
    by_cases hlt : i < W * H
    · have il : (i : Int) < (W : Int) * (H : Int) := by have := Int.natCast_mul W H; omega
      obtain ⟨ad, ua, eA, hu, hca⟩ := (HA.out.bl (w2b.trans hbr)).at_ hlt
      have hua : ua = .bool (bs.getD i false) := by
        simp only [List.getElem?_map, Option.map_eq_some_iff] at hu
        obtain ⟨b, hb1, hb2⟩ := hu
        rw [← hb2, List.getD, hb1]; rfl
      clear hu
      subst hua eA
      have hst := fun k => cntBy_succ bs num i k
      have hle := fun k => cntBy_le bs num i k
      have hn := Hlt.out i hlt
      have hcall := fun wx h => Hnum.out wx i (w2b.trans h) hlt
      obtain ⟨va, hva⟩ : ∃ v, v = bs.getD i false := ⟨_, rfl⟩
      obtain ⟨a, ha⟩ : ∃ a, a = num i := ⟨_, rfl⟩
      rw [← ha] at hn
      simp only [← ha] at hcall hst
      simp only [← hva] at hst hca
      have Hst := Lib.hid hst; have Hle := Lib.hid hle; have Hcall := Lib.hid hcall
      clear hst hle hcall hva ha
      cases va
      · have hsame : tabI many (fun k => ((cntBy bs num i k : Nat) : Int)) = tabI many (fun k => ((cntBy bs num (i + 1) k : Nat) : Int)) :=
          tabI_congr fun k _ => by rw [Hst.out k]; simp [b1]
        rw [hsame] at hbo
        clear hsame
        go_wp2_with fail
        exact ⟨⟨i + 1, hlt, by go_num, hbr, hbo⟩, by simp [intOf]; omega⟩
      · go_wp2_with fail
        refine (Hcall.out _ hbr).mono ?_
        rintro e w4 ⟨rfl, hb4⟩
        have hbr4 := hbr.trans hb4
        have hbo4 := hbo.bl hb4
        have kc := hbo4.tabAt hn
        have kf := hbo4.frozen a
        have hset := hbo4.tabSet (f' := fun k => ((cntBy bs num (i + 1) k : Nat) : Int)) a (((cntBy bs num i a : Nat) : Int) + 1) (fun k hk => by
          rw [Hst.out k]
          by_cases e : k = a
          · subst e; simp [b1]
          · have : ¬ (a = k) := fun h => e h.symm
            simp [e, this, b1])
        have hcb := Hle.out a
        obtain ⟨c, hc⟩ : ∃ c, c = cntBy bs num i a := ⟨_, rfl⟩
        rw [← hc] at kc hset hcb
        have Hset := Lib.hid hset
        clear hset hc k1
        go_wp2_with fail
        exact ⟨⟨i + 1, hlt, by go_num, hbr4.setCell (by simp; omega) _, Hset.out⟩, by simp [intOf]; omega⟩
    · obtain rfl : i = W * H := by omega
      go_wp2_with fail
      go_ret
      exact ⟨_, rfl, by omega, hbo, w2b.trans hbr⟩

set_option maxHeartbeats 400000 in
theorem columns1_any (p W : Nat) (H : Int) (v : Value) (i : Nat) (w : World) (hp : Blk w p 27 #[.int .i64 W, .int .i64 H, v]) (hW : 1 ≤ W ∧ W ≤ 4000) (hi : i ≤ 1048576) :
    Calls Tryd.prog 184 #[.int .i64 i, .pointer (some ⟨p, 0, none⟩)] w fun e w' => e = .returned (.int .i64 ((i % W : Nat) : Int)) ∧ Bl w w' := by
  have kp := hp.all3
  have hWp : ¬ (W = 0) := by omega
  obtain ⟨q, hq⟩ : ∃ q, q = i % W := ⟨_, rfl⟩
  have e1 : (i : Int) % (W : Int) = (q : Int) := by rw [hq]; simp
  have e2 := hq.symm
  have hqb : q ≤ i := by rw [hq]; first | exact Nat.div_le_self _ _ | exact Nat.mod_le _ _
  rw [← hq]
  clear hq
  go_enter Tryd.func184, Tryd.ntmps184
  go_wp2_with fail
  go_ret
  exact ⟨by first | rfl | exact ret_int e1, Bl.refl _⟩
set_option maxRecDepth 100000 in
set_option maxHeartbeats 1000000 in
theorem columns_any (W H : Int) (A : Option Addr) (an ac : Nat) (bs : List Bool) (w : World) (hA : Reads w 1 A an (bs.map .bool)) :
    Calls Tryd.prog 125 #[.agg #[.int .i64 W, .int .i64 H, .slice A an ac]] w fun e w' =>
      ∃ P m c, e = .returned (.tuple #[.slice P m c, .int .i64 (pageErr W H an)]) ∧ TabRes w' (pageErr W H an) W.toNat (colI bs W.toNat H.toNat) P m ∧ Bl w w' := by
  let w2 := (w).alloc (.cells #[.int .i64 W, .int .i64 H, .slice A an ac] 27)
  have w2b : Bl w w2 := (Bl.refl w).alloc _
  have w21 : Blk w2 (w.heap.size) 27 #[.int .i64 W, .int .i64 H, .slice A an ac] := by
    have h0 := Blk.new (w) 27 #[.int .i64 W, .int .i64 H, .slice A an ac]
    exact h0
  have k1 := w21.all3
  by_cases hp : pageErr W H an = 0
  · have hz := sizeErr_zero (pageErr_zero hp).1
    have Hp := Lib.hid hp
    obtain ⟨W, H, rfl, rfl, rfl, u1, u2, u3⟩ := page_nat hp
    have hW : 1 ≤ W ∧ W ≤ 4000 := by omega
    have HA := Lib.hid (hA.bl w2b)
    clear hz hA
    have ent := enters Tryd.func184 (by kernel_rfl) rfl
    go_enter Tryd.func125, Tryd.ntmps125
    go_wp2_with fail
    refine (checkBits_any _ _ _ _ _ _).mono ?_
    rintro e w3 ⟨rfl, hb3⟩
    have k3 := (w21.bl hb3).all3
    clear k1
    go_wp2_with fail
    refine (counted_any W H A ac bs W (fun i => i % W) 184 #[.pointer (some ⟨w.heap.size, 0, none⟩)] _ (HA.out.bl hb3) u3 (by omega) ent
      (fun wx i hb hi => columns1_any _ W H _ i wx ((w21.bl hb3).bl hb) hW (by omega)) (fun i hi => (place_parts hi).1)).mono ?_
    rintro e w4 ⟨g, rfl, hg, hbk, hb4⟩
    have e : tabI W (fun k => ((cntBy bs (fun i => i % W) (W * H) k : Nat) : Int)) = tabI W (colI bs W H) := tabI_congr fun k hk => by rw [cntBy_cols bs W H k hk]; rfl
    rw [e] at hbk
    have hp := Hp.out
    go_wp2_with fail
    refine bodyPost_ret (v := .tuple #[.slice (some ⟨g, 0, none⟩) W W, .int .i64 0]) (by simp [results, Tryd.results125, go_sem]) rfl ⟨_, _, _, by rw [hp], ⟨fun _ => ⟨by simp, ?_⟩, fun h => absurd hp h⟩, (w2b.trans hb3).trans hb4⟩
    simpa using hbk.tabReads
  · have hq : (pageErr W H an != 0) = true := by simp [hp]
    have Hp := Lib.hid hp
    clear hp
    go_enter Tryd.func125, Tryd.ntmps125
    go_wp2_with fail
    refine (checkBits_any _ _ _ _ _ _).mono ?_
    rintro e w3 ⟨rfl, hb3⟩
    go_wp2_with fail
    refine bodyPost_ret (v := .tuple #[.slice none 0 0, .int .i64 (pageErr W H an)]) (by simp [results, Tryd.results125, go_sem]) rfl ⟨_, _, _, rfl, ⟨fun h => absurd h Hp.out, fun _ => ⟨rfl, rfl⟩⟩, w2b.trans hb3⟩

/-! ### Histogram -/
end Go.Proofs.YtjelhdpcaileiaaDoor


/-! bedref2.InkOf, RowsOf, ColumnsOf, Ends, BoundsOf. -/
namespace Go.Proofs.YtjelhdpcaileiaaDoor
open Go.RowKit

set_option maxRecDepth 100000 in
set_option maxHeartbeats 4000000 in
theorem inkOf_any (W H X Y BW BH : Nat) (A : Option Addr) (ac : Nat) (bs : List Bool) (w : World) (hA : Reads w 1 A (W * H) (bs.map .bool)) (hW : W ≤ 4000) (hH : H ≤ 4000) (hX : X + BW ≤ W) (hY : Y + BH ≤ H) :
    Calls Tryd.prog 162 #[.agg #[.int .i64 W, .int .i64 H, .slice A (W * H) ac], .agg #[.int .i64 X, .int .i64 Y, .int .i64 BW, .int .i64 BH]] w fun e w' => e = .returned (.int .i64 (inkN bs W X Y BW BH)) ∧ Bl w w' := by
  let w2 := ((w).alloc (.cells #[.int .i64 W, .int .i64 H, .slice A (W * H) ac] 27)).alloc (.cells #[.int .i64 X, .int .i64 Y, .int .i64 BW, .int .i64 BH] 88)
  have w2b : Bl w w2 := ((Bl.refl w).alloc _).alloc _
  have w21 : Blk w2 (w.heap.size) 27 #[.int .i64 W, .int .i64 H, .slice A (W * H) ac] := by
    have h0 := Blk.new (w) 27 #[.int .i64 W, .int .i64 H, .slice A (W * H) ac]
    exact (h0.alloc _)
  have w22 : Blk w2 (w.heap.size + 1) 88 #[.int .i64 X, .int .i64 Y, .int .i64 BW, .int .i64 BH] := by
    have h0 := Blk.new ((w).alloc (.cells #[.int .i64 W, .int .i64 H, .slice A (W * H) ac] 27)) 88 #[.int .i64 X, .int .i64 Y, .int .i64 BW, .int .i64 BH]
    simp only [World.size_alloc] at h0
    exact h0
  have k2 := w22.all4
  have HA := Lib.hid (hA.bl w2b)
  clear hA
  go_enter Tryd.func162, Tryd.ntmps162
  go_wp2_with fail
  go_loopw [5, 6] (fun n u wr => ∃ j : Nat, j ≤ BH ∧ u = .int .i64 ((Y : Int) + j) ∧ n = .int .i64 (inkN bs W X Y BW j) ∧ Bl w2 wr) (fun _ u _ => Y + BH - (intOf u).toNat)
  case atStart => exact ⟨0, Nat.zero_le _, by simp, rfl, Bl.refl _⟩
  case round =>
    clear k2
    obtain ⟨j, hj, rfl, rfl, hbr⟩ := hrel
    have k2 := (w22.bl hbr).all4
    by_cases hlt : j < BH
    · have d1 : (Y : Int) + (j : Int) < (Y : Int) + (BH : Int) := by omega
      go_wp2_with fail
      go_loopw [5, 7] (fun n u wr => ∃ i : Nat, i ≤ BW ∧ u = .int .i64 ((X : Int) + i) ∧ n = .int .i64 (((inkN bs W X Y BW j + sumN (fun i => b1 (pix bs W (X + i) (Y + j))) i : Nat)) : Int) ∧ Bl w2 wr) (fun _ u _ => X + BW - (intOf u).toNat)
      case atStart => exact ⟨0, Nat.zero_le _, by simp, rfl, hbr⟩
      case round =>
        clear k2 hbr
        rename_i wo _ _ _
        obtain ⟨i, hi, rfl, rfl, hbr⟩ := hrel
        have k1 := (w21.bl hbr).all3
        have k2 := (w22.bl hbr).all4
        by_cases hlt2 : i < BW
        · have d2 : (X : Int) + (i : Int) < (X : Int) + (BW : Int) := by omega
          have hat := at_any W H A ac bs (((X + i : Nat)) : Int) (((Y + j : Nat)) : Int) wr (HA.out.bl hbr) hW hH
          rw [atI_in bs W H (X + i) (Y + j) (by omega) (by omega)] at hat
          have hst : sumN (fun i => b1 (pix bs W (X + i) (Y + j))) (i + 1) = sumN (fun i => b1 (pix bs W (X + i) (Y + j))) i + b1 (pix bs W (X + i) (Y + j)) := rfl
          have hle : sumN (fun i => b1 (pix bs W (X + i) (Y + j))) i ≤ i * 1 := sumN_le (fun _ => b1_le _) i
          have hle2 : inkN bs W X Y BW j ≤ j * BW := sumN_le (fun k => by have := sumN_le (f := fun i => b1 (pix bs W (X + i) (Y + k))) (c := 1) (fun _ => b1_le _) BW; simpa using this) j
          have hle3 := Nat.mul_le_mul (show j ≤ 4000 by omega) (show BW ≤ 4000 by omega)
          obtain ⟨n, hn⟩ : ∃ n, n = sumN (fun i => b1 (pix bs W (X + i) (Y + j))) i := ⟨_, rfl⟩
          obtain ⟨va, hva⟩ : ∃ v, v = pix bs W (X + i) (Y + j) := ⟨_, rfl⟩
          obtain ⟨q, hq⟩ : ∃ q, q = inkN bs W X Y BW j := ⟨_, rfl⟩
          rw [← hn, ← hva] at hst
          rw [← hn] at hle ⊢
          rw [← hva] at hat
          rw [← hq] at hle2 ⊢
          have ex : (((X + i : Nat)) : Int) = (X : Int) + (i : Int) := by simp
          have ey : (((Y + j : Nat)) : Int) = (Y : Int) + (j : Int) := by simp
          rw [ex, ey] at hat
          have Hat := Lib.hid hat; have Hst := Lib.hid hst; have Hq := Lib.hid hq
          clear hat hst hn hva ex ey hq
          cases va
          all_goals
            go_wp2_with fail
            refine Hat.out.mono ?_
            rintro e w1 ⟨rfl, hb1⟩
            go_wp2_with fail
            exact ⟨⟨i + 1, hlt2, by go_num, by rw [Hst.out]; first | (congr 1; done) | (congr 1; simp [b1]; done) | (congr 1; simp [b1]; omega), hbr.trans hb1⟩, by simp [intOf]; omega⟩
        · obtain rfl : i = BW := by omega
          go_wp2_with fail
          exact ⟨⟨j + 1, hlt, by go_num, rfl, hbr⟩, by simp [intOf]; omega⟩
    · obtain rfl : j = BH := by omega
      go_wp2_with fail
      go_ret
      exact ⟨rfl, w2b.trans hbr⟩

set_option maxRecDepth 100000 in
set_option maxHeartbeats 2000000 in
theorem columnsOf_any (W H : Nat) (A : Option Addr) (ac : Nat) (bs : List Bool) (w : World) (hA : Reads w 1 A (W * H) (bs.map .bool)) (hW : W ≤ 4000) (hH : H ≤ 4000) :
    Calls Tryd.prog 89 #[.agg #[.int .i64 W, .int .i64 H, .slice A (W * H) ac]] w fun e w' => ∃ P c, e = .returned (.slice P W c) ∧ Reads w' 1 P W ((tabL W (colI bs W H)).map (.int .i64)) ∧ Bl w w' := by
  let w2 := (w).alloc (.cells #[.int .i64 W, .int .i64 H, .slice A (W * H) ac] 27)
  have w2b : Bl w w2 := (Bl.refl w).alloc _
  have w21 : Blk w2 (w.heap.size) 27 #[.int .i64 W, .int .i64 H, .slice A (W * H) ac] := by
    have h0 := Blk.new (w) 27 #[.int .i64 W, .int .i64 H, .slice A (W * H) ac]
    exact h0
  have k1 := w21.all3
  have lw2 : w2.heap.size = w.heap.size + 1 := by simp [w2]
  have HA := Lib.hid (hA.bl w2b)
  have ho0 : w2.ownsRow (w.heap.size + 1) 3 1 (.slice none 0 0) 0 ((tabL 0 (colI bs W H)).map (.int .i64)) := World.ownsRow_nil _ _ _ _
  have Ho0 := Lib.hid ho0
  clear hA ho0
  go_enter Tryd.func89, Tryd.ntmps89
  go_wp2_with fail
  go_loopw [3, 7] (fun v u wr => ∃ k : Nat, k ≤ W ∧ u = .int .i64 k ∧ Bl w2 wr ∧ wr.ownsRow (w.heap.size + 1) 3 1 v k ((tabL k (colI bs W H)).map (.int .i64))) (fun _ u _ => W - (intOf u).toNat)
  case atStart => exact ⟨0, Nat.zero_le _, rfl, Bl.refl _, Ho0.out⟩
  case round =>
    clear k1
    obtain ⟨k, hk, rfl, hbr, hown⟩ := hrel
    have k1 := (w21.bl hbr).all3
    by_cases hlt : k < W
    · have hcall := inkOf_any W H k 0 1 H A ac bs wr (HA.out.bl hbr) hW hH (by omega) (by omega)
      rw [ink_col] at hcall
      have htl : (tabL (k + 1) (colI bs W H)).map (Value.int .i64) = (tabL k (colI bs W H)).map (Value.int .i64) ++ [Value.int .i64 ((colI bs W H) k)] := by simp [tabL, List.range_succ]
      have Hcall := Lib.hid hcall; have Htl := Lib.hid htl
      clear hcall htl
      go_wp2_with fail
      refine Hcall.out.mono ?_
      rintro e w1 ⟨rfl, hb1⟩
      have hown1 := own_bl hown hb1
      have hbr1 := hbr.trans hb1
      clear hown
      go_wp2_with (at_builtin; refine wpList_append_one rfl (.tmp 10) (.tmp 17) 62 rfl 3 (.int .i64 0) 8 Tryd.underlying62 info_int rfl (w.heap.size + 1) _ _ _ rfl _ rfl rfl hbr1 (by omega) (by have := hbr1.le; omega) hown1 (by omega) (by unfold maxLen; omega) ?_; intro v' w' hown' hb' _)
      exact ⟨⟨k + 1, hlt, by go_num, hb', by rw [Htl.out]; exact hown'⟩, by simp [intOf]; omega⟩
    · obtain rfl : k = W := by omega
      obtain ⟨P, c, rfl, hp⟩ := own_reads hown
      go_wp2_with fail
      go_ret
      exact ⟨_, _, rfl, hp, w2b.trans hbr⟩

/-! ### Ends -/
set_option maxHeartbeats 400000 in
theorem ends1_any (n : Int) (w : World) : Calls Tryd.prog 161 #[.int .i64 n] w fun e w' => e = .returned (.bool (decide (0 < n))) ∧ w = w' := by
  go_enter Tryd.func161, Tryd.ntmps161
  go_wp2_with fail
  go_ret
  exact ⟨by first | rfl | simp, rfl⟩
theorem ends1_enters : ∀ args w, (callFunc 161 args).run Tryd.prog w = .ok (.enter 161 args) w := enters Tryd.func161 (by kernel_rfl) rfl

set_option maxRecDepth 100000 in
set_option maxHeartbeats 1000000 in
theorem indexFunc_any (P : Option Addr) (N c : Nat) (f : Nat → Nat) (w : World) (hr : Reads w 1 P N ((tabL N fun k => ((f k : Nat) : Int)).map (.int .i64))) (hN : N ≤ 16000) :
    Calls Tryd.prog 160 #[.slice P N c, .func (.func 161) #[] #[]] w fun e w' => ∃ x : Int, e = .returned (.int .i64 x) ∧ ((x = -1 ∧ NoEnds f N) ∨ (∃ k : Nat, x = k ∧ k < N ∧ 0 < f k ∧ ∀ j, j < k → f j = 0)) ∧ w = w' := by
  have hent := ends1_enters
  go_enter Tryd.func160, Tryd.ntmps160
  go_wp2_with fail
  go_loop [8] (fun u => ∃ k : Nat, k ≤ N ∧ u = .int .i64 k ∧ Hid (∀ j, j < k → f j = 0)) (fun u => N - (intOf u).toNat)
  case atStart => exact ⟨0, Nat.zero_le _, rfl, fun j hj => absurd hj (by omega)⟩
  case round =>
    obtain ⟨k, hk, rfl, hz⟩ := hrel
    by_cases hlt : k < N
    · obtain ⟨ad, rfl, hc⟩ := hr.intAt hlt
      by_cases hf : f k = 0
      · have hzz : Hid (∀ j, j < k + 1 → f j = 0) := fun j hj => by
          rcases Nat.lt_or_ge j k with h | h
          · exact hz.out j h
          · obtain rfl : j = k := by omega
            exact hf
        simp only [hf] at hc
        have hd : decide ((0 : Int) < ((0 : Nat) : Int)) = false := by decide
        have Hf := Lib.hid hf
        clear hf
        go_wp2_with (go_at_call 161; refine (ends1_any _ _).mono ?_; rintro e w' ⟨rfl, rfl⟩)
        exact ⟨⟨k + 1, hlt, by go_num, hzz⟩, by simp [intOf]; omega⟩
      · have hf' : 0 < f k := by omega
        have hd : decide ((0 : Int) < ((f k : Nat) : Int)) = true := by simp; omega
        have Hf := Lib.hid hf'
        clear hf
        go_wp2_with (go_at_call 161; refine (ends1_any _ _).mono ?_; rintro e w' ⟨rfl, rfl⟩)
        go_ret
        exact ⟨_, rfl, Or.inr ⟨k, rfl, hlt, Hf.out, hz.out⟩, rfl⟩
    · obtain rfl : k = N := by omega
      go_wp2_with fail
      go_ret
      exact ⟨_, rfl, Or.inl ⟨rfl, hz.out⟩, rfl⟩

set_option maxRecDepth 100000 in
set_option maxHeartbeats 1000000 in
theorem ends_any (P : Option Addr) (N c : Nat) (f : Nat → Nat) (w : World) (hr : Reads w 1 P N ((tabL N fun k => ((f k : Nat) : Int)).map (.int .i64))) (hN : N ≤ 16000) :
    Calls Tryd.prog 88 #[.slice P N c] w fun e w' => ∃ (x r : Nat) (is : Bool), e = .returned (.tuple #[.int .i64 x, .int .i64 r, .bool is]) ∧ ((is = false ∧ x = 0 ∧ r = 0 ∧ NoEnds f N) ∨ (is = true ∧ Ends f N x r)) ∧ w = w' := by
  go_enter Tryd.func88, Tryd.ntmps88
  go_wp2_with fail
  refine (indexFunc_any P N c f w hr hN).mono ?_
  rintro e w' ⟨x, rfl, hx, rfl⟩
  rcases hx with ⟨rfl, hno⟩ | ⟨k, rfl, hk, hpos, hz⟩
  · have Hno := Lib.hid hno
    clear hno
    go_wp2_with fail
    refine bodyPost_ret (v := .tuple #[.int .i64 0, .int .i64 0, .bool false]) (by simp [results, Tryd.results88, go_sem]) rfl ⟨0, 0, false, rfl, Or.inl ⟨rfl, rfl, rfl, Hno.out⟩, rfl⟩
  · have Hpos := Lib.hid hpos; have Hz := Lib.hid hz
    clear hpos hz
    go_wp2_with fail
    go_loop [6] (fun u => ∃ r : Nat, r < N ∧ k ≤ r ∧ u = .int .i64 r ∧ Hid (∀ j, r < j → j < N → f j = 0)) (fun u => (intOf u).toNat)
    case atStart => exact ⟨N - 1, by omega, by omega, by congr 1; omega, fun j h1 h2 => by omega⟩
    case round =>
      obtain ⟨r, hr1, hr2, rfl, hzr⟩ := hrel
      obtain ⟨ad, rfl, hc⟩ := hr.intAt hr1
      by_cases hf : f r = 0
      · have hne : k ≠ r := fun e => by subst e; have := Hpos.out; omega
        have hzz : Hid (∀ j, r - 1 < j → j < N → f j = 0) := fun j h1 h2 => by
          rcases Nat.lt_or_ge r j with h | h
          · exact hzr.out j h h2
          · obtain rfl : j = r := by omega
            exact hf
        simp only [hf] at hc
        have Hf := Lib.hid hf
        clear hf
        go_wp2_with fail
        exact ⟨⟨r - 1, by omega, by omega, by go_num, hzz⟩, by simp [intOf]; omega⟩
      · have hd : (((f r : Nat) : Int) == 0) = false := by simp; omega
        have hd2 : ((f r) == 0) = false := by simp; omega
        have Hf := Lib.hid (show 0 < f r by omega)
        clear hf
        go_wp2_with fail
        refine bodyPost_ret (v := .tuple #[.int .i64 k, .int .i64 r, .bool true]) (by simp [results, Tryd.results88, go_sem]) rfl (by first | exact ⟨k, r, true, rfl, Or.inr ⟨rfl, ⟨hk, Hpos.out, Hz.out⟩, hr1, Hf.out, hzr.out⟩, rfl⟩ | exact ⟨k, r, Or.inr ⟨rfl, ⟨⟨hk, Hpos.out, Hz.out⟩, hr1, Hf.out, hzr.out⟩, rfl⟩⟩)

end Go.Proofs.YtjelhdpcaileiaaDoor


/-! What holds of a font whose error is 0. -/
namespace Go.Proofs.YtjelhdpcaileiaaDoor
open Go.RowKit

theorem firstNZ_zero {es : List Int} (h : firstNZ es = 0) : ∀ e ∈ es, e = 0 := by
  induction es with
  | nil => intro e he; cases he
  | cons x es ih =>
    have h' : (if x = 0 then firstNZ es else x) = 0 := h
    by_cases h0 : x = 0
    · rw [if_pos h0] at h'
      intro e he
      rcases List.mem_cons.1 he with rfl | he
      · exact h0
      · exact ih h' e he
    · rw [if_neg h0] at h'
      exact absurd h' h0
theorem whenI_zero {b : Bool} {n : Int} (h : whenI b n = 0) (hn : n ≠ 0) : b = false := by
  cases b
  · rfl
  · exact absurd h hn
theorem ltrsErr_zero {ht : Int} {ls : List Ltr} : ∀ {prev : List (List UInt8)}, ltrsErr ht prev ls = 0 → ∀ l ∈ ls, textB l.text = true ∧ pageErr l.W l.H l.m = 0 ∧ l.H = ht ∧ l.W ≤ 64 := by
  induction ls with
  | nil => intro prev _ l hl; cases hl
  | cons x ls ih =>
    intro prev h l hl
    have h' : (if ltrErr ht prev x = 0 then ltrsErr ht (prev ++ [x.text]) ls else ltrErr ht prev x) = 0 := h
    by_cases h0 : ltrErr ht prev x = 0
    · rw [if_pos h0] at h'
      rcases List.mem_cons.1 hl with rfl | hl
      · have hz := firstNZ_zero h0
        have k1 := whenI_zero (hz _ (by simp : whenI (!textB l.text) 2 ∈ _)) (by decide)
        have k2 := hz (pageErr l.W l.H l.m) (by simp)
        have k3 := whenI_zero (hz (whenI (l.H != ht) 11) (by simp)) (by decide)
        have k4 := whenI_zero (hz (whenI (decide (64 < l.W)) 4) (by simp)) (by decide)
        refine ⟨by simpa using k1, k2, by simpa using k3, ?_⟩
        have := of_decide_eq_false k4
        omega
      · exact ih h' l hl
    · rw [if_neg h0] at h'
      exact absurd h' h0
theorem fontErr_zero {nm : Bool} {ht gap sp : Int} {ls : List Ltr} (h : fontErr nm ht gap sp ls = 0) : (nm = true ∧ rangeB ht gap sp = true ∧ gap < sp ∧ ls.length ≠ 0 ∧ ls.length ≤ 200 ∧ 1 ≤ ht ∧ ht ≤ 64) ∧ ∀ l ∈ ls, textB l.text = true ∧ pageErr l.W l.H l.m = 0 ∧ l.H = ht ∧ l.W ≤ 64 := by
  have h' : (if fontHead nm ht gap sp ls.length = 0 then ltrsErr ht [] ls else fontHead nm ht gap sp ls.length) = 0 := h
  by_cases h0 : fontHead nm ht gap sp ls.length = 0
  · rw [if_pos h0] at h'
    refine ⟨?_, ltrsErr_zero h'⟩
    have hz := firstNZ_zero h0
    have k1 := whenI_zero (hz (whenI (!nm) 5) (by simp)) (by decide)
    have k2 := whenI_zero (hz (whenI (!rangeB ht gap sp) 3) (by simp)) (by decide)
    have k3 := of_decide_eq_false (whenI_zero (hz (whenI (decide (sp ≤ gap)) 7) (by simp)) (by decide))
    have k4 := of_decide_eq_false (whenI_zero (hz (whenI (decide (ls.length = 0)) 9) (by simp)) (by decide))
    have k5 := of_decide_eq_false (whenI_zero (hz (whenI (decide (200 < ls.length)) 4) (by simp)) (by decide))
    have k2' : rangeB ht gap sp = true := by simpa using k2
    have k6 : inB ht 1 64 = true := by
      unfold rangeB at k2'
      simp only [Bool.and_eq_true] at k2'
      exact k2'.1
    have k7 := inB_true.1 k6
    exact ⟨by simpa using k1, k2', by omega, k4, by omega, k7.1, k7.2⟩
  · rw [if_neg h0] at h'
    exact absurd h' h0

end Go.Proofs.YtjelhdpcaileiaaDoor


/-! boxes in pages, Cut and Ink. -/
namespace Go.Proofs.YtjelhdpcaileiaaDoor
open Go.RowKit

/-! ### boxes -/
def inPageB (X Y BW BH W H : Int) : Bool := decide (0 ≤ X ∧ X < W ∧ 0 ≤ Y ∧ Y < H ∧ 1 ≤ BW ∧ BW ≤ W - X ∧ 1 ≤ BH ∧ BH ≤ H - Y)
def inPageW (X Y BW BH W H : Int) : Bool := inB X 0 (wrap64 (W - 1)) && (inB Y 0 (wrap64 (H - 1)) && (inB BW 1 (wrap64 (W - X)) && inB BH 1 (wrap64 (H - Y))))
theorem inPageW_eq {X Y BW BH W H : Int} (hW : 1 ≤ W ∧ W ≤ 4000) (hH : 1 ≤ H ∧ H ≤ 4000) : inPageW X Y BW BH W H = inPageB X Y BW BH W H := by
  have e1 : wrap64 (W - 1) = W - 1 := by unfold wrap64; omega
  have e2 : wrap64 (H - 1) = H - 1 := by unfold wrap64; omega
  rw [Bool.eq_iff_iff]
  unfold inPageW inPageB
  simp only [e1, e2, Bool.and_eq_true, inB_true, decide_eq_true_eq]
  constructor
  · rintro ⟨h1, h2, h3, h4⟩
    have e3 : wrap64 (W - X) = W - X := by unfold wrap64; omega
    have e4 : wrap64 (H - Y) = H - Y := by unfold wrap64; omega
    rw [e3] at h3
    rw [e4] at h4
    omega
  · rintro ⟨h1, h2, h3, h4, h5⟩
    have e3 : wrap64 (W - X) = W - X := by unfold wrap64; omega
    have e4 : wrap64 (H - Y) = H - Y := by unfold wrap64; omega
    rw [e3, e4]
    omega

set_option maxRecDepth 100000 in
set_option maxHeartbeats 2000000 in
theorem inPage_any (X Y BW BH : Int) (W H : Nat) (w : World) (hW : 1 ≤ W ∧ W ≤ 4000) (hH : 1 ≤ H ∧ H ≤ 4000) :
    Calls Tryd.prog 198 #[.agg #[.int .i64 X, .int .i64 Y, .int .i64 BW, .int .i64 BH], .int .i64 W, .int .i64 H] w fun e w' => e = .returned (.int .i64 (whenI (!inPageB X Y BW BH W H) 13)) ∧ Bl w w' := by
  by_cases hall : 0 ≤ X ∧ X < W ∧ 0 ≤ Y ∧ Y < H ∧ 1 ≤ BW ∧ BW ≤ W - X ∧ 1 ≤ BH ∧ BH ≤ H - Y
  · have e : inPageB X Y BW BH W H = true := by unfold inPageB; exact decide_eq_true hall
    rw [e]
    clear e
    obtain ⟨c1, c2, c3, c4, c5, c6, c7, c8⟩ := hall
    go_enter Tryd.func198, Tryd.ntmps198
    go_wp2_with fail
    go_ret
    exact ⟨rfl, (Bl.refl _).alloc _⟩
  · have e : inPageB X Y BW BH W H = false := by unfold inPageB; exact decide_eq_false hall
    rw [e]
    clear e
    rcases (show BW < 1 ∨ (¬ BW < 1 ∧ BH < 1) ∨ (¬ BW < 1 ∧ ¬ BH < 1 ∧ X < 0) ∨ (¬ BW < 1 ∧ ¬ BH < 1 ∧ ¬ X < 0 ∧ Y < 0) ∨ (¬ BW < 1 ∧ ¬ BH < 1 ∧ ¬ X < 0 ∧ ¬ Y < 0 ∧ (W : Int) ≤ X) ∨ (¬ BW < 1 ∧ ¬ BH < 1 ∧ ¬ X < 0 ∧ ¬ Y < 0 ∧ ¬ (W : Int) ≤ X ∧ (H : Int) ≤ Y) ∨
      (¬ BW < 1 ∧ ¬ BH < 1 ∧ ¬ X < 0 ∧ ¬ Y < 0 ∧ ¬ (W : Int) ≤ X ∧ ¬ (H : Int) ≤ Y ∧ (W : Int) - X < BW) ∨ (¬ BW < 1 ∧ ¬ BH < 1 ∧ ¬ X < 0 ∧ ¬ Y < 0 ∧ ¬ (W : Int) ≤ X ∧ ¬ (H : Int) ≤ Y ∧ ¬ (W : Int) - X < BW ∧ (H : Int) - Y < BH) by omega) with
      c1 | ⟨c1, c2⟩ | ⟨c1, c2, c3⟩ | ⟨c1, c2, c3, c4⟩ | ⟨c1, c2, c3, c4, c5⟩ | ⟨c1, c2, c3, c4, c5, c6⟩ | ⟨c1, c2, c3, c4, c5, c6, c7⟩ | ⟨c1, c2, c3, c4, c5, c6, c7, c8⟩
    all_goals
      clear hall
      go_enter Tryd.func198, Tryd.ntmps198
      go_wp2_with fail
      go_ret
      exact ⟨rfl, (Bl.refl _).alloc _⟩

def cutErr (W H : Int) (n : Nat) (X Y BW BH : Int) : Int := firstNZ [pageErr W H n, whenI (!inPageB X Y BW BH W H) 13]
theorem cutErr_zero {W H : Int} {n : Nat} {X Y BW BH : Int} (h : cutErr W H n X Y BW BH = 0) : pageErr W H n = 0 ∧ 0 ≤ X ∧ X < W ∧ 0 ≤ Y ∧ Y < H ∧ 1 ≤ BW ∧ BW ≤ W - X ∧ 1 ≤ BH ∧ BH ≤ H - Y := by
  unfold cutErr firstNZ at h
  split at h
  · rename_i h0
    refine ⟨h0, ?_⟩
    cases hi : inPageB X Y BW BH W H
    · rw [hi] at h; simp [firstNZ, whenI] at h
    · exact of_decide_eq_true hi
  · contradiction
set_option maxRecDepth 100000 in
set_option maxHeartbeats 1000000 in
theorem checkBoth_any (W H : Int) (A : Option Addr) (an ac : Nat) (X Y BW BH : Int) (w : World) :
    Calls Tryd.prog 156 #[.agg #[.int .i64 W, .int .i64 H, .slice A an ac], .agg #[.int .i64 X, .int .i64 Y, .int .i64 BW, .int .i64 BH]] w fun e w' => e = .returned (.int .i64 (cutErr W H an X Y BW BH)) ∧ Bl w w' := by
  let w2 := ((w).alloc (.cells #[.int .i64 W, .int .i64 H, .slice A an ac] 27)).alloc (.cells #[.int .i64 X, .int .i64 Y, .int .i64 BW, .int .i64 BH] 88)
  have w2b : Bl w w2 := ((Bl.refl w).alloc _).alloc _
  have w21 : Blk w2 (w.heap.size) 27 #[.int .i64 W, .int .i64 H, .slice A an ac] := by
    have h0 := Blk.new (w) 27 #[.int .i64 W, .int .i64 H, .slice A an ac]
    exact (h0.alloc _)
  have w22 : Blk w2 (w.heap.size + 1) 88 #[.int .i64 X, .int .i64 Y, .int .i64 BW, .int .i64 BH] := by
    have h0 := Blk.new ((w).alloc (.cells #[.int .i64 W, .int .i64 H, .slice A an ac] 27)) 88 #[.int .i64 X, .int .i64 Y, .int .i64 BW, .int .i64 BH]
    simp only [World.size_alloc] at h0
    exact h0
  have k1 := w21.all3
  by_cases hp : pageErr W H an = 0
  · have e : cutErr W H an X Y BW BH = whenI (!inPageB X Y BW BH W H) 13 := by
      unfold cutErr
      simp only [firstNZ, if_pos hp]
      split <;> simp_all
    rw [e]
    clear e
    have hz := sizeErr_zero (pageErr_zero hp).1
    obtain ⟨W, H, rfl, rfl, rfl, u1, u2, u3⟩ := page_nat hp
    have hW : 1 ≤ W ∧ W ≤ 4000 := by omega
    have hH : 1 ≤ H ∧ H ≤ 4000 := by omega
    clear hz
    go_enter Tryd.func156, Tryd.ntmps156
    go_wp2_with fail
    refine (checkBits_any _ _ _ _ _ _).mono ?_
    rintro e w3 ⟨rfl, hb3⟩
    have k3 := (w21.bl hb3).all3
    have k4 := (w22.bl hb3).all4
    clear k1
    go_wp2_with fail
    refine (inPage_any X Y BW BH W H _ hW hH).mono ?_
    rintro e w4 ⟨rfl, hb4⟩
    go_wp2_with fail
    go_ret
    exact ⟨rfl, (w2b.trans hb3).trans hb4⟩
  · have e : cutErr W H an X Y BW BH = pageErr W H an := by unfold cutErr; simp only [firstNZ, if_neg hp]
    have hq : (pageErr W H an != 0) = true := by simp [hp]
    rw [e]
    clear e hp
    go_enter Tryd.func156, Tryd.ntmps156
    go_wp2_with fail
    refine (checkBits_any _ _ _ _ _ _).mono ?_
    rintro e w3 ⟨rfl, hb3⟩
    go_wp2_with fail
    go_ret
    exact ⟨rfl, w2b.trans hb3⟩

/-! ### Cut -/
def cutF (bs : List Bool) (W X Y x y : Nat) : Bool := pix bs W (X + x) (Y + y)
set_option maxRecDepth 100000 in
set_option maxHeartbeats 1000000 in
theorem cut1_any (p q W H X Y BW BH : Nat) (A : Option Addr) (ac : Nat) (bs : List Bool) (x y : Nat) (w : World) (hp : Blk w p 27 #[.int .i64 W, .int .i64 H, .slice A (W * H) ac]) (hq : Blk w q 88 #[.int .i64 X, .int .i64 Y, .int .i64 BW, .int .i64 BH])
    (hA : Reads w 1 A (W * H) (bs.map .bool)) (hW : W ≤ 4000) (hH : H ≤ 4000) (hx : x < BW) (hy : y < BH) (hX : X + BW ≤ W) (hY : Y + BH ≤ H) :
    Calls Tryd.prog 158 #[.int .i64 x, .int .i64 y, .pointer (some ⟨p, 0, none⟩), .pointer (some ⟨q, 0, none⟩)] w fun e w' => e = .returned (.bool (cutF bs W X Y x y)) ∧ Bl w w' := by
  have kp := hp.all3
  have kq := hq.all4
  have lx : X + x < W := by omega
  have ly : Y + y < H := by omega
  obtain ⟨ad, rfl, hc⟩ := hA.place lx ly
  have hk := place_lt lx ly
  obtain ⟨k, hkk⟩ : ∃ k, k = (Y + y) * W + (X + x) := ⟨_, rfl⟩
  rw [← hkk] at hc hk
  have f0 := Int.natCast_mul (Y + y) W
  have f1 : ((Y : Int) + (y : Int)) * (W : Int) + (X : Int) + (x : Int) = (k : Int) := by rw [hkk]; push_cast; omega
  have f2 : (k : Int) < (W : Int) * (H : Int) := by have := Int.natCast_mul W H; omega
  have f3 : (0 : Int) ≤ ((Y : Int) + (y : Int)) * (W : Int) ∧ ((Y : Int) + (y : Int)) * (W : Int) ≤ 16000000 := by
    have := Nat.mul_le_mul (show Y + y ≤ 4000 by omega) hW
    push_cast at f0
    omega
  unfold cutF
  obtain ⟨v, hv⟩ : ∃ v, v = pix bs W (X + x) (Y + y) := ⟨_, rfl⟩
  rw [← hv] at hc ⊢
  have Hkk := Lib.hid hkk
  clear hv hkk hA f0
  go_enter Tryd.func158, Tryd.ntmps158
  go_wp2_with fail
  go_ret
  exact ⟨rfl, by first | exact Bl.refl _ | exact (Bl.refl _).drew⟩
set_option maxRecDepth 100000 in
set_option maxHeartbeats 2000000 in
theorem cut_any (W H : Int) (A : Option Addr) (an ac : Nat) (bs : List Bool) (X Y BW BH : Int) (w : World) (hA : Reads w 1 A an (bs.map .bool)) :
    Calls Tryd.prog 84 #[.agg #[.int .i64 W, .int .i64 H, .slice A an ac], .agg #[.int .i64 X, .int .i64 Y, .int .i64 BW, .int .i64 BH]] w fun e w' => ∃ a b R m d, e = .returned (.tuple #[.agg #[.int .i64 a, .int .i64 b, .slice R m d], .int .i64 (cutErr W H an X Y BW BH)]) ∧
      Res w.heap.size w' (cutErr W H an X Y BW BH) BW.toNat BH.toNat ((grid BW.toNat BH.toNat (cutF bs W.toNat X.toNat Y.toNat)).map .bool) a b R m d ∧ Bl w w' := by
  by_cases he : cutErr W H an X Y BW BH = 0
  · obtain ⟨hp, c1, c2, c3, c4, c5, c6, c7, c8⟩ := cutErr_zero he
    obtain ⟨W, H, rfl, rfl, rfl, u1, u2, u3⟩ := page_nat hp
    obtain ⟨X, rfl⟩ := Int.eq_ofNat_of_zero_le c1
    obtain ⟨Y, rfl⟩ := Int.eq_ofNat_of_zero_le c3
    obtain ⟨BW, rfl⟩ := Int.eq_ofNat_of_zero_le (show 0 ≤ BW by omega)
    obtain ⟨BH, rfl⟩ := Int.eq_ofNat_of_zero_le (show 0 ≤ BH by omega)
    have hX : X + BW ≤ W := by omega
    have hY : Y + BH ≤ H := by omega
    have hsz : BW * BH ≤ 1048576 := Nat.le_trans (Nat.mul_le_mul (show BW ≤ W by omega) (show BH ≤ H by omega)) u3
    simp only [Int.toNat_natCast]
    clear c1 c2 c3 c4 c5 c6 c7 c8 hp
    let w2 := (((w).alloc (.cells #[.int .i64 W, .int .i64 H, .slice A (W * H) ac] 27)).alloc (.cells #[.int .i64 X, .int .i64 Y, .int .i64 BW, .int .i64 BH] 88)).alloc (.cells #[.int .i64 0, .int .i64 0, .slice none 0 0] 27)
    have w2b : Bl w w2 := (((Bl.refl w).alloc _).alloc _).alloc _
    have w21 : Blk w2 (w.heap.size) 27 #[.int .i64 W, .int .i64 H, .slice A (W * H) ac] := by
      have h0 := Blk.new (w) 27 #[.int .i64 W, .int .i64 H, .slice A (W * H) ac]
      exact ((h0.alloc _).alloc _)
    have w22 : Blk w2 (w.heap.size + 1) 88 #[.int .i64 X, .int .i64 Y, .int .i64 BW, .int .i64 BH] := by
      have h0 := Blk.new ((w).alloc (.cells #[.int .i64 W, .int .i64 H, .slice A (W * H) ac] 27)) 88 #[.int .i64 X, .int .i64 Y, .int .i64 BW, .int .i64 BH]
      simp only [World.size_alloc] at h0
      exact (h0.alloc _)
    have w23 : Blk w2 (w.heap.size + 1 + 1) 27 #[.int .i64 0, .int .i64 0, .slice none 0 0] := by
      have h0 := Blk.new (((w).alloc (.cells #[.int .i64 W, .int .i64 H, .slice A (W * H) ac] 27)).alloc (.cells #[.int .i64 X, .int .i64 Y, .int .i64 BW, .int .i64 BH] 88)) 27 #[.int .i64 0, .int .i64 0, .slice none 0 0]
      simp only [World.size_alloc] at h0
      exact h0
    have k1 := w21.all3
    have k2 := w22.all4
    have hA2 := hA.bl w2b
    have HA := Lib.hid hA2
    clear hA hA2
    go_enter Tryd.func84, Tryd.ntmps84
    go_wp2_with fail
    refine (checkBoth_any _ _ _ _ _ _ _ _ _ _).mono ?_
    rintro e w3 ⟨rfl, hb3⟩
    have k1 := (w21.bl hb3).all3
    have k2 := (w22.bl hb3).all4
    have hle := w2b.trans hb3
    have hP : Paints Tryd.prog 158 #[.pointer (some ⟨w.heap.size, 0, none⟩), .pointer (some ⟨w.heap.size + 1, 0, none⟩)] Value.bool w3 BW BH (cutF bs W X Y) :=
      ⟨enters Tryd.func158 (by kernel_rfl) rfl, fun wx x y hb hx hy => cut1_any _ _ W H X Y BW BH A ac bs x y wx ((w21.bl hb3).bl hb) ((w22.bl hb3).bl hb) ((HA.out.bl hb3).bl hb) u1 u2 hx hy hX hY⟩
    have HP := Lib.hid hP
    clear hP
    go_wp2_with fail
    refine (made_any BW BH _ _ _ _ (by omega) (by omega) hsz HP.out).mono ?_
    rintro e w6 ⟨r, rfl, hpg, hb6⟩
    have k3 := (w23.bl (hb3.trans hb6)).all3
    have hle6 := hle.trans hb6
    have hsz3 := (w23.bl hb3).lt
    obtain ⟨R, rc, rfl, hR, hRn⟩ := hpg
    have hRn' : ∀ ad, R = some ad → w.heap.size + 3 ≤ ad.block := fun ad h => by have := hRn ad h; omega
    have HR := Lib.hid hR; have HRn := Lib.hid hRn'
    clear hR hRn hRn'
    go_wp2_with fail
    refine bodyPost_ret (v := .tuple #[.agg #[.int .i64 BW, .int .i64 BH, .slice R (BW * BH) rc], .int .i64 0]) (by simp [results, Tryd.results84, go_sem, k3]) rfl ⟨_, _, R, _, rc, by rw [he], Res.page he ?_ (fun ad h => by have := HRn.out ad h; omega), ?_⟩
    · exact ((HR.out.store HRn.out (by simp) _).store HRn.out (by simp) _).store HRn.out (by simp) _
    · exact (((hle6.setCell (by simp; omega) _).setCell (by simp; omega) _).setCell (by simp; omega) _)
  · have hq : (cutErr W H an X Y BW BH != 0) = true := by simp [he]
    have He := Lib.hid he
    clear he hA
    let w2 := (((w).alloc (.cells #[.int .i64 W, .int .i64 H, .slice A an ac] 27)).alloc (.cells #[.int .i64 X, .int .i64 Y, .int .i64 BW, .int .i64 BH] 88)).alloc (.cells #[.int .i64 0, .int .i64 0, .slice none 0 0] 27)
    have w2b : Bl w w2 := (((Bl.refl w).alloc _).alloc _).alloc _
    have w21 : Blk w2 (w.heap.size) 27 #[.int .i64 W, .int .i64 H, .slice A an ac] := by
      have h0 := Blk.new (w) 27 #[.int .i64 W, .int .i64 H, .slice A an ac]
      exact ((h0.alloc _).alloc _)
    have w22 : Blk w2 (w.heap.size + 1) 88 #[.int .i64 X, .int .i64 Y, .int .i64 BW, .int .i64 BH] := by
      have h0 := Blk.new ((w).alloc (.cells #[.int .i64 W, .int .i64 H, .slice A an ac] 27)) 88 #[.int .i64 X, .int .i64 Y, .int .i64 BW, .int .i64 BH]
      simp only [World.size_alloc] at h0
      exact (h0.alloc _)
    have w23 : Blk w2 (w.heap.size + 1 + 1) 27 #[.int .i64 0, .int .i64 0, .slice none 0 0] := by
      have h0 := Blk.new (((w).alloc (.cells #[.int .i64 W, .int .i64 H, .slice A an ac] 27)).alloc (.cells #[.int .i64 X, .int .i64 Y, .int .i64 BW, .int .i64 BH] 88)) 27 #[.int .i64 0, .int .i64 0, .slice none 0 0]
      simp only [World.size_alloc] at h0
      exact h0
    have k1 := w21.all3
    have k2 := w22.all4
    go_enter Tryd.func84, Tryd.ntmps84
    go_wp2_with fail
    refine (checkBoth_any _ _ _ _ _ _ _ _ _ _).mono ?_
    rintro e w3 ⟨rfl, hb3⟩
    have k3 := (w23.bl hb3).all3
    go_wp2_with fail
    refine bodyPost_ret (v := .tuple #[.agg #[.int .i64 0, .int .i64 0, .slice none 0 0], .int .i64 (cutErr W H an X Y BW BH)]) (by simp [results, Tryd.results84, go_sem, k3]) rfl ⟨_, _, _, _, _, rfl, Res.zero _ _ _ _ _ He.out, ?_⟩
    exact ((((w2b.trans hb3).setCell (by simp; omega) _).setCell (by simp; omega) _).setCell (by simp; omega) _)

/-! ### Ink -/
end Go.Proofs.YtjelhdpcaileiaaDoor


/-! bedref2.CutOf. -/
namespace Go.Proofs.YtjelhdpcaileiaaDoor
open Go.RowKit

set_option maxRecDepth 100000 in
set_option maxHeartbeats 1000000 in
theorem cutOf1_any (p q W H X Y BW BH : Nat) (A : Option Addr) (ac : Nat) (bs : List Bool) (x y : Nat) (w : World) (hp : Blk w p 27 #[.int .i64 W, .int .i64 H, .slice A (W * H) ac]) (hq : Blk w q 88 #[.int .i64 X, .int .i64 Y, .int .i64 BW, .int .i64 BH])
    (hA : Reads w 1 A (W * H) (bs.map .bool)) (hW : W ≤ 4000) (hH : H ≤ 4000) (hx : x < BW) (hy : y < BH) (hX : X + BW ≤ W) (hY : Y + BH ≤ H) :
    Calls Tryd.prog 163 #[.int .i64 x, .int .i64 y, .pointer (some ⟨p, 0, none⟩), .pointer (some ⟨q, 0, none⟩)] w fun e w' => e = .returned (.bool (cutF bs W X Y x y)) ∧ Bl w w' := by
  have kp := hp.all3
  have kq := hq.all4
  have hat := at_any W H A ac bs ((X + x : Nat) : Int) ((Y + y : Nat) : Int) w hA hW hH
  rw [atI_in bs W H _ _ (by omega) (by omega)] at hat
  have e1 : ((X + x : Nat) : Int) = (X : Int) + (x : Int) := by simp
  have e2 : ((Y + y : Nat) : Int) = (Y : Int) + (y : Int) := by simp
  rw [e1, e2] at hat
  have Hat := Lib.hid hat
  clear hat hA e1 e2
  go_enter Tryd.func163, Tryd.ntmps163
  go_wp2_with fail
  refine Hat.out.mono ?_
  rintro e w1 ⟨rfl, hb1⟩
  go_wp2_with fail
  go_ret
  exact ⟨rfl, hb1⟩
set_option maxRecDepth 100000 in
set_option maxHeartbeats 1000000 in
theorem cutOf_any (W H X Y BW BH : Nat) (A : Option Addr) (ac : Nat) (bs : List Bool) (w : World) (hA : Reads w 1 A (W * H) (bs.map .bool)) (hW : W ≤ 4000) (hH : H ≤ 4000) (hX : X + BW ≤ W) (hY : Y + BH ≤ H) :
    Calls Tryd.prog 90 #[.agg #[.int .i64 W, .int .i64 H, .slice A (W * H) ac], .agg #[.int .i64 X, .int .i64 Y, .int .i64 BW, .int .i64 BH]] w fun e w' => ∃ R rc, e = .returned (.agg #[.int .i64 BW, .int .i64 BH, .slice R (BW * BH) rc]) ∧ Reads w' 1 R (BW * BH) ((grid BW BH (cutF bs W X Y)).map .bool) ∧ (∀ ad, R = some ad → w.heap.size + 3 ≤ ad.block) ∧ Bl w w' := by
  let w2 := (((w).alloc (.cells #[.int .i64 W, .int .i64 H, .slice A (W * H) ac] 27)).alloc (.cells #[.int .i64 X, .int .i64 Y, .int .i64 BW, .int .i64 BH] 88)).alloc (.cells #[.int .i64 0, .int .i64 0, .slice none 0 0] 27)
  have w2b : Bl w w2 := (((Bl.refl w).alloc _).alloc _).alloc _
  have w21 : Blk w2 (w.heap.size) 27 #[.int .i64 W, .int .i64 H, .slice A (W * H) ac] := by
    have h0 := Blk.new (w) 27 #[.int .i64 W, .int .i64 H, .slice A (W * H) ac]
    exact ((h0.alloc _).alloc _)
  have w22 : Blk w2 (w.heap.size + 1) 88 #[.int .i64 X, .int .i64 Y, .int .i64 BW, .int .i64 BH] := by
    have h0 := Blk.new ((w).alloc (.cells #[.int .i64 W, .int .i64 H, .slice A (W * H) ac] 27)) 88 #[.int .i64 X, .int .i64 Y, .int .i64 BW, .int .i64 BH]
    simp only [World.size_alloc] at h0
    exact (h0.alloc _)
  have w23 : Blk w2 (w.heap.size + 1 + 1) 27 #[.int .i64 0, .int .i64 0, .slice none 0 0] := by
    have h0 := Blk.new (((w).alloc (.cells #[.int .i64 W, .int .i64 H, .slice A (W * H) ac] 27)).alloc (.cells #[.int .i64 X, .int .i64 Y, .int .i64 BW, .int .i64 BH] 88)) 27 #[.int .i64 0, .int .i64 0, .slice none 0 0]
    simp only [World.size_alloc] at h0
    exact h0
  have hbd : BW * BH ≤ 16000000 := by have := Nat.mul_le_mul (show BW ≤ 4000 by omega) (show BH ≤ 4000 by omega); omega
  have hP : Paints Tryd.prog 163 #[.pointer (some ⟨w.heap.size, 0, none⟩), .pointer (some ⟨w.heap.size + 1, 0, none⟩)] Value.bool w2 BW BH (cutF bs W X Y) :=
    ⟨enters Tryd.func163 (by kernel_rfl) rfl, fun wy x y hb hx hy => cutOf1_any _ _ W H X Y BW BH A ac bs x y wy (w21.bl hb) (w22.bl hb) ((hA.bl w2b).bl hb) hW hH hx hy hX hY⟩
  have HP := Lib.hid hP
  clear hP hA
  have k2 := w22.all4
  go_enter Tryd.func90, Tryd.ntmps90
  go_wp2_with fail
  refine (Made_any BW BH _ _ _ _ (by omega) (by omega) (by omega) HP.out).mono ?_
  rintro e w6 ⟨r, rfl, hpg, hb6⟩
  have kr3 := (w23.bl hb6).all3
  have hsz3 := w23.lt
  have hle6 := w2b.trans hb6
  obtain ⟨R, rc, rfl, hR, hRn⟩ := hpg
  have hRn' : ∀ ad, R = some ad → w.heap.size + 3 ≤ ad.block := fun ad h => by have := hRn ad h; omega
  have HR := Lib.hid hR; have HRn := Lib.hid hRn'
  clear hR hRn hRn'
  go_wp2_with fail
  refine bodyPost_ret (v := .agg #[.int .i64 BW, .int .i64 BH, .slice R (BW * BH) rc]) (by simp [results, Tryd.results90, go_sem, kr3]) rfl ⟨R, rc, rfl, ?_, HRn.out, ?_⟩
  · exact ((HR.out.store HRn.out (by simp) _).store HRn.out (by simp) _).store HRn.out (by simp) _
  · exact (((hle6.setCell (by simp; omega) _).setCell (by simp; omega) _).setCell (by simp; omega) _)

end Go.Proofs.YtjelhdpcaileiaaDoor


/-! Rows that a call owns, and rows that lie: cells that are set, rows that grow. -/
namespace Go.Proofs.YtjelhdpcaileiaaDoor
open Go.RowKit

theorem ownsRow_set {w : World} {base : Nat} {e : TypeId} {size n g cap : Nat} {xs : List Value} (h : w.ownsRow base e size (.slice (some ⟨g, 0, none⟩) n cap) n xs) (j : Nat) (u : Value) : (w.setCell ⟨g, j, none⟩ u).ownsRow base e size (.slice (some ⟨g, 0, none⟩) n cap) n (xs.set j u) := by
  refine ⟨by rw [List.length_set]; exact h.1, ?_⟩
  rcases h.2 with ⟨hv, _⟩ | ⟨g', cap', cur, hv, hb, hg, hn, hc, hs, ht⟩
  · cases hv
  · injection hv with h1 h2 h3
    injection h1 with h1
    injection h1 with h1
    subst h1
    subst h3
    refine .inr ⟨g, cap, cur.setIfInBounds j u, rfl, hb, ?_, hn, hc, by simpa using hs, ?_⟩
    · simp [World.setCell, Array.getElem?_modify, hg]
    · rw [Array.toList_setIfInBounds, List.take_set, ht]
theorem add_flat (g i : Nat) : (⟨g, 0, none⟩ : Addr).add i = ⟨g, i, none⟩ := by unfold Addr.add; split <;> simp_all
theorem Reads.lt {w : World} {A : Option Addr} {n : Nat} {xs : List Value} (h : Reads w 1 A n xs) : ∀ a, A = some a → 0 < n → a.block < w.heap.size := fun a ha hn => by
  obtain ⟨ad, u, e, -, hc⟩ := h.at_ hn
  rw [ha] at e
  injection e with e
  subst e
  have := World.block_lt_of_cell? w _ hc
  rwa [block_of_add] at this
theorem Reads.far {w : World} {size n : Nat} {A : Option Addr} {xs : List Value} (h : Reads w size A n xs) {p : Addr} (hn : ∀ a, A = some a → 0 < n → a.block ≠ p.block) (u : Value) : Reads (w.setCell p u) size A n xs :=
  ⟨h.1, fun hk => by
    obtain ⟨ad, e, hc⟩ := h.2 hk
    exact ⟨ad, e, fun j x hx => by rw [World.cell?_setCell_other w p _ u (fun e' => by have h1 := hn ad e hk; have h2 := congrArg Addr.block e'; rw [block_of_add] at h2; omega)]; exact hc j x hx⟩⟩
theorem Reads.grown {w w' : World} {n : Nat} {A : Option Addr} {xs : List Value} {row : Option Nat} (h : Reads w 1 A n xs) (hb : w.grownBy w' row) (hn : ∀ a, A = some a → 0 < n → some a.block ≠ row) : Reads w' 1 A n xs :=
  ⟨h.1, fun hk => by
    obtain ⟨ad, e, hc⟩ := h.2 hk
    refine ⟨ad, e, fun j x hx => ?_⟩
    rw [World.cell?_of_block (hb.block _ (by rw [block_of_add]; exact h.lt ad e hk) (by rw [block_of_add]; exact hn ad e hk))]
    exact hc j x hx⟩
theorem own_some {w : World} {base : Nat} {e : TypeId} {size n : Nat} {v : Value} {xs : List Value} (h : w.ownsRow base e size v n xs) (hn : 0 < n) : ∃ g cap, v = .slice (some ⟨g, 0, none⟩) n cap ∧ base ≤ g ∧ n ≤ cap := by
  rcases h.2 with ⟨-, h0⟩ | ⟨g, cap, cur, rfl, hb, -, hc, -⟩
  · omega
  · exact ⟨g, cap, rfl, hb, hc⟩
theorem own_lt {w : World} {base : Nat} {e : TypeId} {size n g cap : Nat} {xs : List Value} (h : w.ownsRow base e size (.slice (some ⟨g, 0, none⟩) n cap) n xs) : g < w.heap.size := by
  rcases h.2 with ⟨hv, -⟩ | ⟨g', cap', cur, hv, -, hg, -⟩
  · cases hv
  · injection hv with h1 h2 h3
    injection h1 with h1
    injection h1 with h1
    subst h1
    exact (Array.getElem?_eq_some_iff.1 hg).1
theorem own_blk {w : World} {base : Nat} {e : TypeId} {size n g cap : Nat} {xs : List Value} (h : w.ownsRow base e size (.slice (some ⟨g, 0, none⟩) n cap) n xs) : (∀ j, j < n * size → ∃ v, w.cell? ⟨g, j, none⟩ = some v) ∧ ∀ j, w.frozen? ⟨g, j, none⟩ = false := by
  rcases h.2 with ⟨hv, -⟩ | ⟨g', cap', cur, hv, -, hg, hn, -, hs, -⟩
  · cases hv
  · injection hv with h1 h2 h3
    injection h1 with h1
    injection h1 with h1
    subst h1
    subst h3
    have hb : Blk w g e cur := hg
    refine ⟨fun j hj => ?_, hb.frozen⟩
    have hlt : j < cur.size := by have := Nat.mul_le_mul_right size hn; omega
    exact ⟨cur[j], by rw [hb.cell]; exact Array.getElem?_eq_getElem hlt⟩
theorem page_ok {W H : Nat} (h1 : 1 ≤ W) (h2 : W ≤ 4000) (h3 : 1 ≤ H) (h4 : H ≤ 4000) (h5 : W * H ≤ 1048576) : pageErr (W : Int) (H : Int) (W * H) = 0 := by
  have e := Int.natCast_mul W H
  have hs : sizeErr (W : Int) (H : Int) = 0 := by
    unfold sizeErr
    rw [if_pos (by omega), if_neg (by omega)]
  unfold pageErr
  rw [if_pos hs, if_pos (by omega)]

end Go.Proofs.YtjelhdpcaileiaaDoor


/-! A region in which two operations that make memory may come up in either order: reads and reckonings first, then both ways. No condition. -/
namespace Go.Proofs.YtjelhdpcaileiaaDoor
open Go.RowKit

section
variable {P : Program} {ops : Array Oper} {Q : Exit → Act → World → Prop} {md : Region.Mode} {cl : Nat → Bool}

def withK (K : Act → World → Prop) (Q : Exit → Act → World → Prop) : Exit → Act → World → Prop
  | .normal, a, w => K a w
  | e, a, w => Q e a w

def listTo : List (Bool × Nat) → Array Bool → Array Bool
  | [], listed => listed
  | (_, i) :: σ, listed => listTo σ (listed.setIfInBounds i true)

def preOk (md : Region.Mode) (ops : Array Oper) (cl : Nat → Bool) : List (Bool × Nat) → Array Bool → Bool
  | [], _ => true
  | (true, i) :: σ, listed => (Region.ready md ops listed).contains i && Region.free md ops listed i &&
      ((List.range ops.size).all fun j => j == i || listed.getD j true || !cl j || precedes md ops i j) && preOk md ops cl σ (listed.setIfInBounds i true)
  | (false, _) :: _, _ => false

theorem fork_sound (hs : Region.noSelect ops = true) (hQ : ∀ c a d v w, Q (.panic c) (Act.put a d v) w → Q (.panic c) a w) {R : Exit → Act → World → Prop} {n : Nat} :
    ∀ (σ : List (Bool × Nat)) (fuel : Nat) (listed : Array Bool) (a : Act) (w : World), listed.size = ops.size → DownClosed md ops listed → σ.length + n ≤ fuel → preOk md ops cl σ listed = true →
      (∀ (fuel : Nat) (a : Act) (w : World), (listTo σ listed).size = ops.size → DownClosed md ops (listTo σ listed) → n ≤ fuel → R .normal a w → wpAnyT P md ops Q cl fuel (listTo σ listed) a w) →
      Flow P ops R cl σ a w → wpAnyT P md ops Q cl fuel listed a w := by
  intro σ
  induction σ with
  | nil =>
    intro fuel listed a w hsz hdc hf hok hK h
    exact hK fuel a w hsz hdc (by simpa using hf) h
  | cons s σ ih =>
    obtain ⟨b, i⟩ := s
    intro fuel listed a w hsz hdc hf hok hK h
    cases fuel with
    | zero => simp at hf
    | succ fuel =>
      have hf' : σ.length + n ≤ fuel := by simp at hf; omega
      cases b with
      | true =>
        simp only [preOk, Bool.and_eq_true] at hok
        obtain ⟨⟨⟨h1, h2⟩, h3⟩, h4⟩ := hok
        obtain ⟨o, v, ho, hy, hfl⟩ := h
        have hir : i ∈ Region.ready md ops listed := by simpa using h1
        refine wpAnyT_first ho (Region.noSelect_spec hs) (fun c a w => hQ c a o.dst v w) fuel listed a w hsz hdc ?_ (Region.free_spec ho h2) hir hy (ih fuel _ _ _ (by simpa using hsz) (hdc.set hir) hf' h4 hK hfl)
        intro j oj hj hji hun hc
        simp only [List.all_eq_true, List.mem_range] at h3
        have h5 := h3 j (Array.getElem?_eq_some_iff.1 hj).1
        simpa only [hc, hun, Bool.or_eq_true, beq_iff_eq, hji, Bool.not_true, Bool.false_eq_true, false_or] using h5
      | false => simp [preOk] at hok

def forkOk (md : Region.Mode) (ops : Array Oper) (cl : Nat → Bool) (σ : List (Bool × Nat)) (i : Nat) (σ1 : List (Bool × Nat)) (j : Nat) (σ2 : List (Bool × Nat)) (listed : Array Bool) : Bool :=
  preOk md ops cl σ listed && Region.ready md ops (listTo σ listed) == [i, j] && flowOk md ops cl σ1 ((listTo σ listed).setIfInBounds i true) && flowOk md ops cl σ2 ((listTo σ listed).setIfInBounds j true)

/-- **TWO THAT COME UP IN EITHER ORDER.** -/
theorem wp_region_fork {id : Nat} {a : Act} {w : World} (σ : List (Bool × Nat)) (i : Nat) (σ1 : List (Bool × Nat)) (j : Nat) (σ2 : List (Bool × Nat)) (cl : Nat → Bool) (hm : P.follows .mixedOrders = true) (hs : Region.noSelect ops = true)
    (hl : decide (σ.length + (σ1.length + σ2.length + 1) ≤ ops.size + σ2.length ∧ σ2.length = σ1.length) = true) (hok : forkOk .any ops cl σ i σ1 j σ2 (Array.replicate ops.size false) = true)
    (h : Flow P ops (NoPanic (withK (fun a w => Flow P ops (NoPanic Q) cl ((false, i) :: σ1) a w ∧ Flow P ops (NoPanic Q) cl ((false, j) :: σ2) a w) Q)) cl σ a w.drew) : (Code.region id ops true).wp P Q a w := by
  have hl' := of_decide_eq_true hl
  unfold forkOk at hok
  simp only [Bool.and_eq_true, beq_iff_eq] at hok
  obtain ⟨⟨⟨h1, h2⟩, h3⟩, h4⟩ := hok
  refine wp_region_noPanic (wp_region_any hm (wpAny_of_T _ _ _ _ (fork_sound (cl := cl) (n := σ1.length + 1) hs noPanic_put σ _ _ _ _ (by simp) downClosed_start (by omega) h1 ?_ h)))
  intro fuel a w hsz hdc hf hK
  obtain ⟨k1, k2⟩ : Flow P ops (NoPanic Q) cl ((false, i) :: σ1) a w ∧ Flow P ops (NoPanic Q) cl ((false, j) :: σ2) a w := hK
  cases fuel with
  | zero => omega
  | succ fuel =>
    refine ⟨fun h0 => (by rw [h0] at h2; cases h2), fun k hk => ?_⟩
    have hk0 := hk
    rw [h2] at hk
    simp only [List.mem_cons, List.not_mem_nil, or_false] at hk
    rcases hk with rfl | rfl
    · exact wpOp_mono (fun a' w' h' => ⟨h'.1, flow_sound hs noPanic_put σ1 fuel _ _ _ (by simpa using hsz) (hdc.set hk0) (by omega) h3 h'.2⟩) k1
    · exact wpOp_mono (fun a' w' h' => ⟨h'.1, flow_sound hs noPanic_put σ2 fuel _ _ _ (by simpa using hsz) (hdc.set hk0) (by omega) h4 h'.2⟩) k2

theorem Flow.fork {K : Act → World → Prop} {a : Act} {w : World} (h : K a w) : Flow P ops (NoPanic (withK K Q)) cl [] a w := h
end

end Go.Proofs.YtjelhdpcaileiaaDoor
