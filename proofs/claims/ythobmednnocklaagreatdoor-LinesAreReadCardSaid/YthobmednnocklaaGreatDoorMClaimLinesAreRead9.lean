/- Desks: whether recipes are looked at. -/
import Derived.Test.YthobmednnocklaaGreatDoorMClaimLinesAreRead8
import Derived.Test.YthobmednnocklaaGreatDoorMClaimLinesAreRead4
import Derived.Test.YthobmednnocklaaGreatDoorMClaimLinesAreRead1
import Derived.Test.YthobmednnocklaaGreatDoorMClaimLinesAreRead2
import Derived.Test.YthobmednnocklaaGreatDoorMClaimLinesAreRead5
import Derived.Deep.WholeRow

namespace Go.Proofs.YthobmednnocklaaGreatDoor
open Go.RowKit Go.Shelf

/-! ### clean.bits -/
set_option maxRecDepth 100000 in
set_option maxHeartbeats 4000000 in
theorem cleanBits_any (W H : Nat) (v : Nat → Bool) (k : FuncId) (cap : Array Value) (w : World) (hent : ∀ args w, (callFunc k args).run Tryz.prog w = .ok (.enter k args) w) (hWH : W * H ≤ 1048576)
 (hk : ∀ (wx : World) (i : Nat), Bl w wx → i < W * H → Calls Tryz.prog k (#[.int .i64 i] ++ cap) wx fun e w' => e = .returned (.bool (v i)) ∧ Bl wx w') :
 Calls Tryz.prog 305 #[.int .i64 W, .int .i64 H, .func (.func k) #[] cap] w fun e w' => ∃ vv, e = .returned vv ∧ BPage w.heap.size w' vv W H ((List.range (W * H)).map v) ∧ Bl w w' := by
 have hmk := run_make_row' (P := Tryz.prog) 22 4 (.bool false) 1 Tryz.underlying22 info_bool rfl .i64 .i64 (W * H) (by omega) (by omega)
 have eWH : (W : Int) * (H : Int) = ((W * H : Nat) : Int) := by simp
 have h1 : (0 : Int) ≤ (W : Int) * (H : Int) := by omega
 have h2 : (W : Int) * (H : Int) ≤ 1048576 := by omega
 rw [← eWH] at hmk
 have EWH := Lib.hid eWH
 have HK := Lib.hid hk
 clear eWH hk
 go_enter Tryz.func305, Tryz.ntmps305
 go_upto_region 2 with fail
 obtain ⟨w1, hw1⟩ : ∃ x, x = (((w.alloc (.cells #[.int .i64 0, .int .i64 0, .slice none 0 0] 24)).alloc (.cells (madeCells #[.bool false] (W * H)) 4)).alloc (.cells #[.int .i64 W, .int .i64 H, .slice (some ⟨w.heap.size + 1, 0, none⟩) (W * H) (W * H)] 24)) := ⟨_, rfl⟩
 have b0 : Blk w1 w.heap.size 24 #[.int .i64 0, .int .i64 0, .slice none 0 0] := by rw [hw1]; exact ((Blk.new w _ _).alloc _).alloc _
 have b1 : Blk w1 (w.heap.size + 1) 4 (tabB (W * H) fun _ => false) := by
  have h := Blk.new (w.alloc (.cells #[.int .i64 0, .int .i64 0, .slice none 0 0] 24)) 4 (madeCells #[.bool false] (W * H))
  simp only [World.size_alloc] at h
  rw [hw1, ← tabB_made]
  exact h.alloc _
 have b2 : Blk w1 (w.heap.size + 1 + 1) 24 #[.int .i64 W, .int .i64 H, .slice (some ⟨w.heap.size + 1, 0, none⟩) (W * H) (W * H)] := by
  have h := Blk.new ((w.alloc (.cells #[.int .i64 0, .int .i64 0, .slice none 0 0] 24)).alloc (.cells (madeCells #[.bool false] (W * H)) 4)) 24 #[.int .i64 W, .int .i64 H, .slice (some ⟨w.heap.size + 1, 0, none⟩) (W * H) (W * H)]
  simp only [World.size_alloc] at h
  rw [hw1]
  exact h
 have hb1 : Bl w w1 := by rw [hw1]; exact (((Bl.refl w).alloc _).alloc _).alloc _
 rw [← hw1]
 have k2 := b2.all3
 have B0 := Lib.hid b0; have B1 := Lib.hid b1; have B2 := Lib.hid b2; have Hb1 := Lib.hid hb1
 obtain ⟨N, hN⟩ : ∃ n, n = W * H := ⟨_, rfl⟩
 have hN2 : N ≤ 1048576 := by omega
 rw [← hN] at B1 HK
 have HN := Lib.hid hN
 rw [← hN] at k2 B2 ⊢
 clear hw1 b0 b1 b2 hb1 hN hmk h1 h2
 go_wp2_with fail
 go_loopw [19] (fun u wr => ∃ i : Nat, i ≤ N ∧ u = .int .i64 i ∧ Bl w wr ∧ Blk wr w.heap.size 24 #[.int .i64 0, .int .i64 0, .slice none 0 0] ∧ Blk wr (w.heap.size + 1) 4 (tabB N fun k => decide (k < i) && v k) ∧ Blk wr (w.heap.size + 1 + 1) 24 #[.int .i64 W, .int .i64 H, .slice (some ⟨w.heap.size + 1, 0, none⟩) N N]) (fun u _ => N - (RowKit.intOf u).toNat)
 case atStart => exact ⟨0, Nat.zero_le _, rfl, Hb1.out, B0.out, by rw [tabB_congr (g := fun _ => false) (fun k _ => by show (decide (k < 0) && v k) = false; rw [decide_eq_false (by omega)]; rfl)]; exact B1.out, B2.out⟩
 case round =>
  obtain ⟨i, hi, rfl, hb, c0, c1, c2⟩ := hrel
  have k2 := c2.all3
  by_cases hlt : i < N
  · have hc := HK.out wr i hb hlt
    obtain ⟨VI, hVI⟩ : ∃ b, b = v i := ⟨_, rfl⟩
    rw [← hVI] at hc
    have Hc := Lib.hid (hc.mono fun e w' h => h)
    have hcd := HK.out
    have C0 := Lib.hid c0; have C1 := Lib.hid c1; have C2 := Lib.hid c2; have Hb := Lib.hid hb; have HVI := Lib.hid hVI
    have fi := c1.frozen i
    have hiI : (i : Int) < (N : Int) := by omega
    clear hc hb hVI hcd c0 c1 c2
    go_upto_region 5 with fail
    refine wp_region_flow [(true, 0), (true, 1), (true, 2), (true, 3), (true, 4), (false, 5), (true, 6), (false, 7)] (fun i => i == 7) (by kernel_rfl) (by kernel_rfl) (by kernel_rfl) (by kernel_rfl) ?_
    iterate 2
     apply Flow.calm2 _ _ rfl rfl
     · intro w' hb' K' hK'
       obtain ⟨hc', hf'⟩ := hb'.rule
       go_simp
       try go_ints
       exact hK'
     · intro K' hK'
       simp only [sqA]
       exact hK'
    iterate 3
     apply Flow.mv _ rfl
     · intro K' hK'
       simp only [sqA, Act.eval, arr_getD, List.getD_cons_zero, List.getD_cons_succ]
       exact hK'
    apply Flow.move rfl
    go_wp2_with fail
    refine (show Calls Tryz.prog k (#[.int .i64 i] ++ cap) _ fun e w' => e = .returned (.bool VI) ∧ Bl _ w' from by rw [HVI.out]; exact HK.out _ i (Hb.out.trans (Bl.refl _).drew) hlt).mono ?_
    rintro e w3 ⟨rfl, HB1⟩
    have hb3 : Bl wr w3 := Bl.ofDrew HB1
    have D1 := Lib.hid (C1.out.bl hb3)
    have f3 := D1.out.frozen i
    have g3 := D1.out.tabAtB hlt
    go_wp2_with fail
    refine ⟨fun _ => (by first | exact HB1 | exact Bl.refl _), ?_⟩
    iterate 1
     apply Flow.calm2 _ _ rfl rfl
     · intro w' hb' K' hK'
       obtain ⟨hc', hf'⟩ := hb'.rule
       go_simp
       try go_ints
       exact hK'
     · intro K' hK'
       simp only [sqA]
       exact hK'
    refine Flow.tail _ rfl ?_
    have Hb3 := Lib.hid hb3
    clear HB1 hb3
    go_wp2_with fail
    exact ⟨⟨i + 1, hlt, by go_num, (Hb.out.trans Hb3.out).setCell (by show _ ≤ _ + 1; omega) _, (C0.out.bl Hb3.out).far (by show _ ≠ _ + 1; omega) _, D1.out.tabSetB i VI (fun k _ => by
     show (decide (k < i + 1) && v k) = if k = i then VI else (decide (k < i) && v k)
     by_cases h : k = i
     · rw [if_pos h, h, decide_eq_true (by omega), HVI.out]; rfl
     · rw [if_neg h]
       by_cases h2 : k < i
       · rw [decide_eq_true h2, decide_eq_true (by omega)]
       · rw [decide_eq_false h2, decide_eq_false (by omega)]), (C2.out.bl Hb3.out).far (by show _ + 1 + 1 ≠ _ + 1; omega) _⟩, by simp [RowKit.intOf]; omega⟩
  · obtain rfl : i = N := by omega
    have k0 := c0.all3
    have C0 := Lib.hid c0; have Hb := Lib.hid hb
    have C1 := Lib.hid (show Blk wr (w.heap.size + 1) 4 (((List.range (W * H)).map v).map Value.bool).toArray by
     have h := c1
     rw [tabB_congr (g := v) (fun k hk => by show (decide (k < _) && v k) = v k; rw [decide_eq_true hk]; rfl)] at h
     rw [← HN.out, List.map_map]
     exact h)
    clear c0 c1 c2 hb
    go_wp2_with fail
    obtain ⟨wS, hwS⟩ : ∃ x, x = ((wr.setCell ⟨w.heap.size, 0, none⟩ (.int .i64 W)).setCell ⟨w.heap.size, 1, none⟩ (.int .i64 H)).setCell ⟨w.heap.size, 2, none⟩ (.slice (some ⟨w.heap.size + 1, 0, none⟩) i i) := ⟨_, rfl⟩
    have bS : Blk wS w.heap.size 24 #[.int .i64 W, .int .i64 H, .slice (some ⟨w.heap.size + 1, 0, none⟩) i i] := by rw [hwS]; exact ((C0.out.set_ 0 _).set_ 1 _).set_ 2 _
    have hS : Bl w wS := by rw [hwS]; exact ((Hb.out.setCell (Nat.le_refl _) _).setCell (Nat.le_refl _) _).setCell (Nat.le_refl _) _
    have hne : w.heap.size + 1 ≠ w.heap.size := by omega
    have b1 : Blk wS (w.heap.size + 1) 4 (((List.range (W * H)).map v).map Value.bool).toArray := by rw [hwS]; exact ((C1.out.far hne _).far hne _).far hne _
    rw [← hwS]
    have kF := bS.all3
    have HNi := HN.out
    refine bodyPost_ret (v := .agg #[.int .i64 W, .int .i64 H, .slice (some ⟨w.heap.size + 1, 0, none⟩) i i]) (by simp [results, Tryz.results305, go_sem, kF]) rfl ⟨_, rfl, ⟨_, by rw [← HNi], b1, by simp, Nat.le_succ _⟩, hS⟩
/-! ### a page without ink -/
def noInk (n : Nat) : List Bool := List.replicate n false
theorem noInk_at {n i : Nat} (h : i < n) : (noInk n)[i]? = some false := by unfold noInk; rw [List.getElem?_replicate, if_pos h]
set_option maxRecDepth 100000 in
set_option maxHeartbeats 2000000 in
theorem regions_none (W H : Int) (n : Nat) (C : Option Addr) (cc : Nat) (co : Bool) (w : World) (hC : Reads w 1 C n ((noInk n).map .bool)) (hn : n ≤ 1048576) :
 Calls Tryz.prog 258 #[.agg #[.int .i64 W, .int .i64 H, .slice C n cc], .bool true, .bool co] w fun e w' => e = .returned (.slice none 0 0) ∧ Bl w w' := by
 have hmk := run_make_row' (P := Tryz.prog) 22 4 (.bool false) 1 Tryz.underlying22 info_bool rfl .i64 .i64 n (by omega) (by omega)
 let w1 := (w).alloc (.cells #[.int .i64 W, .int .i64 H, .slice C n cc] 24)
 have w1b : Bl w w1 := (Bl.refl w).alloc _
 have w11 : Blk w1 (w.heap.size) 24 #[.int .i64 W, .int .i64 H, .slice C n cc] := by
  have h0 := Blk.new (w) 24 #[.int .i64 W, .int .i64 H, .slice C n cc]
  exact h0
 have k1 := w11.all3
 have HC := Lib.hid (hC.bl w1b); have HW1b := Lib.hid w1b
 clear hC w1b
 go_enter Tryz.func258, Tryz.ntmps258
 go_upto_region 1 with fail
 rw [show (w.alloc (.cells #[.int .i64 W, .int .i64 H, .slice C n cc] 24)) = w1 from rfl]
 clear_value w1
 go_upto_region 3 with fail
 obtain ⟨g, hg⟩ : ∃ x, x = w1.heap.size := ⟨_, rfl⟩
 obtain ⟨w2, hw2⟩ : ∃ x, x = w1.alloc (.cells (madeCells #[.bool false] n) 4) := ⟨_, rfl⟩
 have b2 : Blk w2 g 4 (tabB n fun _ => false) := by rw [hw2, hg, ← tabB_made]; exact Blk.new _ _ _
 have hb2 : Bl w1 w2 := by rw [hw2]; exact (Bl.refl _).alloc _
 rw [← hw2, ← hg]
 have k1 := (w11.bl hb2).all3
 have Hb2 := Lib.hid hb2; have B2 := Lib.hid b2
 clear hw2 hg b2 hb2 hmk
 go_wp2_with fail
 go_loopw [8, 24] (fun s u wr => s = .slice none 0 0 ∧ ∃ i : Nat, i ≤ n ∧ u = .int .i64 i ∧ Bl w2 wr) (fun _ u _ => n - (RowKit.intOf u).toNat)
 case atStart => exact ⟨rfl, 0, Nat.zero_le _, rfl, Bl.refl _⟩
 case round =>
  clear k1
  obtain ⟨rfl, i, hi, rfl, hb⟩ := hrel
  by_cases hlt : i < n
  · obtain ⟨ad, u, rfl, hu, hc⟩ := (HC.out.bl (Hb2.out.trans hb)).at_ hlt
    have hu1 : u = .bool false := by
     rw [List.getElem?_map, noInk_at hlt] at hu
     exact (Option.some.inj hu).symm
    subst hu1
    have k1 := (w11.bl (Hb2.out.trans hb)).all3
    have k2 := (B2.out.bl hb).tabAtB hlt
    have hiI : (i : Int) < (n : Int) := by omega
    clear hu
    go_wp2_with fail
    exact ⟨⟨rfl, i + 1, hlt, by go_num, hb⟩, by simp [RowKit.intOf]; omega⟩
  · have k1 := (w11.bl (Hb2.out.trans hb)).all3
    go_wp2_with fail
    go_ret
    exact ⟨rfl, HW1b.out.trans (Hb2.out.trans hb)⟩
end Go.Proofs.YthobmednnocklaaGreatDoor


/-! Desks: specks, sums, blocks of a page without ink. -/
namespace Go.Proofs.YthobmednnocklaaGreatDoor
open Go.RowKit Go.Shelf

/-! ### clean.Specks of a page without ink -/
theorem changed1_any (p : Nat) (W H : Int) (C : Option Addr) (n cc i : Nat) (bs : List Bool) (w : World) (hp : Blk w p 24 #[.int .i64 W, .int .i64 H, .slice C n cc]) (hC : Reads w 1 C n (bs.map .bool)) (hi : i < n) :
 Calls Tryz.prog 306 #[.int .i64 i, .pointer (some ⟨p, 0, none⟩)] w fun e w' => e = .returned (.bool (bs.getD i false)) ∧ Bl w w' := by
 have k1 := hp.all3
 obtain ⟨ad, u, rfl, hu, hc⟩ := hC.at_ hi
 have hu1 : u = .bool (bs.getD i false) := by
  rw [List.getElem?_map] at hu
  rw [List.getD_eq_getElem?_getD]
  cases h : bs[i]? with
  | none => rw [h] at hu; cases hu
  | some b => rw [h] at hu; exact (Option.some.inj hu).symm
 subst hu1
 obtain ⟨B, hB⟩ : ∃ b, b = bs.getD i false := ⟨_, rfl⟩
 rw [← hB] at hc ⊢
 have hiI : (i : Int) < (n : Int) := by omega
 have lp := hp.lt
 clear hu hB hC hp
 go_enter Tryz.func306, Tryz.ntmps306
 go_wp2_with fail
 go_ret
 exact ⟨rfl, Bl.refl _⟩
set_option maxRecDepth 100000 in
set_option maxHeartbeats 2000000 in
theorem changed_none (W H : Nat) (C : Option Addr) (cc : Nat) (most : Int) (co : Bool) (F : Value) (w : World) (hs : sizeErr (W : Int) (H : Int) = 0) (hC : Reads w 1 C (W * H) ((noInk (W * H)).map .bool)) (hm : 0 ≤ most ∧ most ≤ 1048576) :
 Calls Tryz.prog 245 #[.agg #[.int .i64 W, .int .i64 H, .slice C (W * H) cc], .int .i64 most, .bool true, .bool co, F] w fun e w' => ∃ v, e = .returned (.tuple #[v, .int .i64 0, .int .i64 0]) ∧ NPage w.heap.size w' v W H ((noInk (W * H)).map .bool) ∧ Bl w w' := by
 have hz := sizeErr_zero hs
 have hWH : W * H ≤ 1048576 := by have := Int.natCast_mul W H; omega
 have p1 : pageErr W H (W * H) = 0 := by unfold pageErr; rw [if_pos hs, if_pos (by simp)]
 have Hcb := Lib.hid (fun wx => checkBits_any W H C (W * H) cc wx)
 rw [p1] at Hcb
 let w1 := ((w).alloc (.cells #[.int .i64 W, .int .i64 H, .slice C (W * H) cc] 24)).alloc (.cells #[.int .i64 0, .int .i64 0, .slice none 0 0] 24)
 have w1b : Bl w w1 := ((Bl.refl w).alloc _).alloc _
 have w11 : Blk w1 (w.heap.size) 24 #[.int .i64 W, .int .i64 H, .slice C (W * H) cc] := by
  have h0 := Blk.new (w) 24 #[.int .i64 W, .int .i64 H, .slice C (W * H) cc]
  exact (h0.alloc _)
 have w12 : Blk w1 (w.heap.size + 1) 24 #[.int .i64 0, .int .i64 0, .slice none 0 0] := by
  have h0 := Blk.new ((w).alloc (.cells #[.int .i64 W, .int .i64 H, .slice C (W * H) cc] 24)) 24 #[.int .i64 0, .int .i64 0, .slice none 0 0]
  simp only [World.size_alloc] at h0
  exact h0
 have sz1 : w1.heap.size = w.heap.size + 2 := by simp [w1]
 have k1 := w11.all3
 have HC := Lib.hid (hC.bl w1b); have HW1b := Lib.hid w1b
 clear hC w1b
 go_enter Tryz.func245, Tryz.ntmps245
 go_upto_region 1 with fail
 rw [show (w.alloc (.cells #[.int .i64 W, .int .i64 H, .slice C (W * H) cc] 24)).alloc (.cells #[.int .i64 0, .int .i64 0, .slice none 0 0] 24) = w1 from rfl]
 clear_value w1
 go_upto_region 6 with (go_at_call 84; refine (Hcb.out _).mono ?_; rintro e w2 ⟨rfl, hb2⟩)
 have k1 := (w11.bl hb2).all3
 have Hb2 := Lib.hid hb2
 have Hbits := Lib.hid (cleanBits_any W H (fun i => (noInk (W * H)).getD i false) 306 #[.pointer (some ⟨w.heap.size, 0, none⟩)] w2 (enters Tryz.func306 (by kernel_rfl) rfl) hWH
  (fun wx i hx hi => changed1_any w.heap.size W H C (W * H) cc i (noInk (W * H)) wx (w11.bl (hb2.trans hx)) (HC.out.bl (hb2.trans hx)) hi))
 have hmap : (List.range (W * H)).map (fun i => (noInk (W * H)).getD i false) = noInk (W * H) := by
  refine List.ext_getElem? fun i => ?_
  rw [List.getElem?_map]
  by_cases h : i < W * H
  · rw [List.getElem?_range h, noInk_at h]
    show some ((noInk (W * H)).getD i false) = some false
    rw [List.getD_eq_getElem?_getD, noInk_at h]
    rfl
  · rw [List.getElem?_eq_none (by simpa using Nat.le_of_not_lt h), List.getElem?_eq_none (by unfold noInk; simpa using Nat.le_of_not_lt h)]
    rfl
 rw [hmap] at Hbits
 clear hb2 hmap
 go_upto_region 7 with (go_at_call 305; refine Hbits.out.mono ?_; rintro e w3 ⟨v3, rfl, ⟨g3, rfl, hg3, hgl3, hgn3⟩, hb3⟩)
 obtain ⟨o, ho⟩ : ∃ x, x = w3.heap.size := ⟨_, rfl⟩
 obtain ⟨w4, hw4⟩ : ∃ x, x = w3.alloc (.cells #[.int .i64 W, .int .i64 H, .slice (some ⟨g3, 0, none⟩) (W * H) (W * H)] 24) := ⟨_, rfl⟩
 have b4 : Blk w4 o 24 #[.int .i64 W, .int .i64 H, .slice (some ⟨g3, 0, none⟩) (W * H) (W * H)] := by rw [hw4, ho]; exact Blk.new _ _ _
 have hb4 : Bl w3 w4 := by rw [hw4]; exact (Bl.refl _).alloc _
 rw [← hw4, ← ho]
 have Hb4 := Lib.hid (Hb2.out.trans (hb3.trans hb4)); have B4 := Lib.hid b4; have HG := Lib.hid (hg3.bl hb4); have Hgn := Lib.hid hgn3; have Hgl := Lib.hid hgl3
 have k1 := (w11.bl Hb4.out).all3
 have hle2 := Hb2.out.le
 clear hw4 ho b4 hb4 hb3 hg3 hgl3 hgn3
 go_upto_region 9 with (go_at_call 258; refine (regions_none W H (W * H) C cc co _ (HC.out.bl Hb4.out) hWH).mono ?_; rintro e w5 ⟨rfl, hb5⟩)
 have Hb5 := Lib.hid (Hb4.out.trans hb5)
 have k4 := (B4.out.bl hb5).all3
 have B2 := Lib.hid (w12.bl Hb5.out)
 have k2 := B2.out.all3
 have HG5 := Lib.hid (HG.out.bl hb5)
 clear hb5 k1
 go_wp2_with fail
 refine wp_loop_rounds 1 ?_
 rw [rounds_succ]
 go_wp2_with fail
 obtain ⟨wS, hwS⟩ : ∃ x, x = ((w5.setCell ⟨w.heap.size + 1, 0, none⟩ (.int .i64 W)).setCell ⟨w.heap.size + 1, 1, none⟩ (.int .i64 H)).setCell ⟨w.heap.size + 1, 2, none⟩ (.slice (some ⟨g3, 0, none⟩) (W * H) (W * H)) := ⟨_, rfl⟩
 have bS : Blk wS (w.heap.size + 1) 24 #[.int .i64 W, .int .i64 H, .slice (some ⟨g3, 0, none⟩) (W * H) (W * H)] := by rw [hwS]; exact ((B2.out.set_ 0 _).set_ 1 _).set_ 2 _
 have hS : Bl w wS := by rw [hwS]; exact (((HW1b.out.trans Hb5.out).setCell (Nat.le_succ _) _).setCell (Nat.le_succ _) _).setCell (Nat.le_succ _) _
 have hne : g3 ≠ w.heap.size + 1 := by have := Hgn.out; omega
 have bG : Blk wS g3 4 ((noInk (W * H)).map Value.bool).toArray := by rw [hwS]; exact ((HG5.out.far hne _).far hne _).far hne _
 rw [← hwS]
 have kF := bS.all3
 have hwg : w.heap.size ≤ g3 := by have := Hgn.out; omega
 have hrd := bG.reads (W * H) 1 (by simp [noInk])
 refine bodyPost_ret (v := .tuple #[.agg #[.int .i64 W, .int .i64 H, .slice (some ⟨g3, 0, none⟩) (W * H) (W * H)], .int .i64 0, .int .i64 0]) (by simp [results, Tryz.results245, go_sem, kF]) rfl ⟨_, rfl, ⟨_, _, rfl, by simpa using hrd, fun ad h => by cases h; exact hwg⟩, hS⟩
set_option maxRecDepth 100000 in
set_option maxHeartbeats 2000000 in
theorem specks_none (W H : Nat) (C : Option Addr) (cc : Nat) (most : Int) (w : World) (hs : sizeErr (W : Int) (H : Int) = 0) (hC : Reads w 1 C (W * H) ((noInk (W * H)).map .bool)) (hm : 0 ≤ most ∧ most ≤ 1048576) :
 Calls Tryz.prog 160 #[.agg #[.int .i64 W, .int .i64 H, .slice C (W * H) cc], .int .i64 most] w fun e w' => ∃ v, e = .returned (.tuple #[v, .int .i64 0, .int .i64 0]) ∧ NPage w.heap.size w' v W H ((noInk (W * H)).map .bool) ∧ Bl w w' := by
 let w1 := (((w).alloc (.cells #[.int .i64 W, .int .i64 H, .slice C (W * H) cc] 24)).alloc (.cells #[.int .i64 most] 3)).alloc (.cells #[.int .i64 0, .int .i64 0, .slice none 0 0] 24)
 have w1b : Bl w w1 := (((Bl.refl w).alloc _).alloc _).alloc _
 have w11 : Blk w1 (w.heap.size) 24 #[.int .i64 W, .int .i64 H, .slice C (W * H) cc] := by
  have h0 := Blk.new (w) 24 #[.int .i64 W, .int .i64 H, .slice C (W * H) cc]
  exact ((h0.alloc _).alloc _)
 have w12 : Blk w1 (w.heap.size + 1) 3 #[.int .i64 most] := by
  have h0 := Blk.new ((w).alloc (.cells #[.int .i64 W, .int .i64 H, .slice C (W * H) cc] 24)) 3 #[.int .i64 most]
  simp only [World.size_alloc] at h0
  exact (h0.alloc _)
 have w13 : Blk w1 (w.heap.size + 1 + 1) 24 #[.int .i64 0, .int .i64 0, .slice none 0 0] := by
  have h0 := Blk.new (((w).alloc (.cells #[.int .i64 W, .int .i64 H, .slice C (W * H) cc] 24)).alloc (.cells #[.int .i64 most] 3)) 24 #[.int .i64 0, .int .i64 0, .slice none 0 0]
  simp only [World.size_alloc] at h0
  exact h0
 have sz1 : w1.heap.size = w.heap.size + 3 := by simp [w1]
 have k1 := w11.all3
 have k2 := w12.all1
 have HW1b := Lib.hid w1b
 have Hch := Lib.hid (changed_none W H C cc most true (.func (.func 246) #[] #[.pointer (some ⟨w.heap.size + 1, 0, none⟩)]) w1 hs (hC.bl w1b) hm)
 clear hC w1b
 go_enter Tryz.func160, Tryz.ntmps160
 go_upto_region 1 with fail
 rw [show ((w.alloc (.cells #[.int .i64 W, .int .i64 H, .slice C (W * H) cc] 24)).alloc (.cells #[.int .i64 most] 3)).alloc (.cells #[.int .i64 0, .int .i64 0, .slice none 0 0] 24) = w1 from rfl]
 clear_value w1
 go_wp2_with (go_at_call 245; refine Hch.out.mono ?_; rintro e w2 ⟨v2, rfl, ⟨R, rc, rfl, hr2, hn2⟩, hb2⟩; have B3 := Lib.hid (w13.bl hb2); have k3 := B3.out.all3; have Hb2 := Lib.hid hb2; have HR := Lib.hid hr2; have HN := Lib.hid hn2; clear hr2 hn2 hb2)
 obtain ⟨wS, hwS⟩ : ∃ x, x = ((w2.setCell ⟨w.heap.size + 1 + 1, 0, none⟩ (.int .i64 W)).setCell ⟨w.heap.size + 1 + 1, 1, none⟩ (.int .i64 H)).setCell ⟨w.heap.size + 1 + 1, 2, none⟩ (.slice R (W * H) rc) := ⟨_, rfl⟩
 have bS : Blk wS (w.heap.size + 1 + 1) 24 #[.int .i64 W, .int .i64 H, .slice R (W * H) rc] := by rw [hwS]; exact ((B3.out.set_ 0 _).set_ 1 _).set_ 2 _
 have hS : Bl w wS := by rw [hwS]; exact (((HW1b.out.trans Hb2.out).setCell (by show _ ≤ _ + 1 + 1; omega) _).setCell (by show _ ≤ _ + 1 + 1; omega) _).setCell (by show _ ≤ _ + 1 + 1; omega) _
 have hfar : w.heap.size + 1 + 1 < w1.heap.size := by omega
 have rS : Reads wS 1 R (W * H) ((noInk (W * H)).map .bool) := by rw [hwS]; exact ((HR.out.store HN.out hfar _).store HN.out hfar _).store HN.out hfar _
 rw [← hwS]
 have kF := bS.all3
 refine bodyPost_ret (v := .tuple #[.agg #[.int .i64 W, .int .i64 H, .slice R (W * H) rc], .int .i64 0, .int .i64 0]) (by simp [results, Tryz.results160, go_sem, kF]) rfl ⟨_, rfl, ⟨R, rc, rfl, rS, fun ad h => by have := HN.out ad h; omega⟩, hS⟩

/-! ### sums of ink -/
def inkV (bs : List Bool) (i : Nat) : Int := if bs.getD i false = true then 1 else 0
theorem inkV_bd (bs : List Bool) (i : Nat) : 0 ≤ inkV bs i ∧ inkV bs i ≤ 255 := by unfold inkV; split <;> omega
theorem inkSums1_any (p : Nat) (W H : Int) (C : Option Addr) (n cc i : Nat) (bs : List Bool) (w : World) (hp : Blk w p 24 #[.int .i64 W, .int .i64 H, .slice C n cc]) (hC : Reads w 1 C n (bs.map .bool)) (hi : i < n) :
 Calls Tryz.prog 249 #[.int .i64 i, .pointer (some ⟨p, 0, none⟩)] w fun e w' => e = .returned (.int .i64 (inkV bs i)) ∧ Bl w w' := by
 have k1 := hp.all3
 obtain ⟨ad, u, rfl, hu, hc⟩ := hC.at_ hi
 have hu1 : u = .bool (bs.getD i false) := by
  rw [List.getElem?_map] at hu
  rw [List.getD_eq_getElem?_getD]
  cases h : bs[i]? with
  | none => rw [h] at hu; cases hu
  | some b => rw [h] at hu; exact (Option.some.inj hu).symm
 subst hu1
 obtain ⟨B, hB⟩ : ∃ b, b = bs.getD i false := ⟨_, rfl⟩
 obtain ⟨V, hV⟩ : ∃ b, b = inkV bs i := ⟨_, rfl⟩
 have hV2 : V = if B = true then 1 else 0 := by rw [hV, hB]; rfl
 rw [← hB] at hc
 rw [← hV]
 have hiI : (i : Int) < (n : Int) := by omega
 have lp := hp.lt
 clear hu hB hC hp hV
 cases B with
 | true =>
  have HV := Lib.hid (show V = 1 from hV2)
  clear hV2
  go_enter Tryz.func249, Tryz.ntmps249
  go_wp2_with fail
  go_ret
  exact ⟨by rw [HV.out]; rfl, Bl.refl _⟩
 | false =>
  have HV := Lib.hid (show V = 0 from hV2)
  clear hV2
  go_enter Tryz.func249, Tryz.ntmps249
  go_wp2_with fail
  go_ret
  exact ⟨by rw [HV.out]; rfl, Bl.refl _⟩
theorem inkSums_any (W H : Nat) (C : Option Addr) (cc : Nat) (bs : List Bool) (w : World) (hC : Reads w 1 C (W * H) (bs.map .bool)) (hW : W ≤ 4000) (hH : H ≤ 4000) :
 Calls Tryz.prog 162 #[.agg #[.int .i64 W, .int .i64 H, .slice C (W * H) cc]] w fun e w' => ∃ p g, e = .returned (.pointer (some ⟨p, 0, none⟩)) ∧ IsSums w' p g W H (inkV bs) ∧ Bl w w' := by
 let w1 := (w).alloc (.cells #[.int .i64 W, .int .i64 H, .slice C (W * H) cc] 24)
 have w1b : Bl w w1 := (Bl.refl w).alloc _
 have w11 : Blk w1 (w.heap.size) 24 #[.int .i64 W, .int .i64 H, .slice C (W * H) cc] := by
  have h0 := Blk.new (w) 24 #[.int .i64 W, .int .i64 H, .slice C (W * H) cc]
  exact h0
 have k1 := w11.all3
 have HW1b := Lib.hid w1b
 have Hs := Lib.hid (sumsOf_any W H (inkV bs) (inkV_bd bs) 249 #[.pointer (some ⟨w.heap.size, 0, none⟩)] w1 (enters Tryz.func249 (by kernel_rfl) rfl) hW hH
  (fun wx i hx hi => inkSums1_any w.heap.size W H C (W * H) cc i bs wx (w11.bl hx) (hC.bl (w1b.trans hx)) hi))
 clear hC w1b
 go_enter Tryz.func162, Tryz.ntmps162
 go_upto_region 1 with fail
 rw [show (w.alloc (.cells #[.int .i64 W, .int .i64 H, .slice C (W * H) cc] 24)) = w1 from rfl]
 clear_value w1
 go_wp2_with (go_at_call 248; refine Hs.out.mono ?_; rintro e w2 ⟨p, g, rfl, hs2, hb2⟩; have HS := Lib.hid hs2; clear hs2)
 go_ret
 exact ⟨p, g, rfl, HS.out, HW1b.out.trans hb2⟩
theorem noInk_sum (n W x y l h : Nat) : boxSum (inkV (noInk n)) W x y l h = 0 := by
 have hv : ∀ i, inkV (noInk n) i = 0 := fun i => by
  unfold inkV noInk
  rw [List.getD_eq_getElem?_getD, List.getElem?_replicate]
  by_cases h : i < n
  · rw [if_pos h]; rfl
  · rw [if_neg h]; rfl
 have hr : ∀ y x, rowSum (inkV (noInk n)) W y x = 0 := fun y x => by
  induction x with
  | zero => rfl
  | succ x ih => simp only [rowSum]; rw [ih, hv]; rfl
 have hs : ∀ y x, sat (inkV (noInk n)) W y x = 0 := fun y x => by
  induction y with
  | zero => rfl
  | succ y ih => simp only [sat]; rw [ih, hr]; rfl
 unfold boxSum
 rw [hs, hs, hs, hs]
 rfl
end Go.Proofs.YthobmednnocklaaGreatDoor


/-! Desks: the layout of a page without ink, and what recipes are looked at for. -/
namespace Go.Proofs.YthobmednnocklaaGreatDoor
open Go.RowKit Go.Shelf

set_option maxRecDepth 100000 in
set_option maxHeartbeats 2000000 in
theorem tight_none (c p g W H n X Y BW BH : Nat) (b0 b1 : Int) (b2 gx gy out : Value) (w : World) (hc : Blk w c 249 #[.int .i64 b0, .int .i64 b1, b2, .pointer (some ⟨p, 0, none⟩), gx, gy, out]) (hs : IsSums w p g W H (inkV (noInk n))) (hW : W ≤ 4000) (hH : H ≤ 4000) (hX : X + BW ≤ W) (hY : Y + BH ≤ H) :
 Calls Tryz.prog 254 #[.pointer (some ⟨c, 0, none⟩), .agg #[.int .i64 X, .int .i64 Y, .int .i64 BW, .int .i64 BH]] w fun e w' => e = .returned (.tuple #[.agg #[.int .i64 X, .int .i64 Y, .int .i64 BW, .int .i64 BH], .bool false]) ∧ Bl w w' := by
 let w1 := ((w).alloc (.cells #[.int .i64 X, .int .i64 Y, .int .i64 BW, .int .i64 BH] 26)).alloc (.cells #[.int .i64 0, .int .i64 0, .int .i64 0, .int .i64 0] 26)
 have w1b : Bl w w1 := ((Bl.refl w).alloc _).alloc _
 have w11 : Blk w1 (w.heap.size) 26 #[.int .i64 X, .int .i64 Y, .int .i64 BW, .int .i64 BH] := by
  have h0 := Blk.new (w) 26 #[.int .i64 X, .int .i64 Y, .int .i64 BW, .int .i64 BH]
  exact (h0.alloc _)
 have w12 : Blk w1 (w.heap.size + 1) 26 #[.int .i64 0, .int .i64 0, .int .i64 0, .int .i64 0] := by
  have h0 := Blk.new ((w).alloc (.cells #[.int .i64 X, .int .i64 Y, .int .i64 BW, .int .i64 BH] 26)) 26 #[.int .i64 0, .int .i64 0, .int .i64 0, .int .i64 0]
  simp only [World.size_alloc] at h0
  exact h0
 have k1 := w11.all4
 have k2 := (hc.bl w1b).all7
 have lc := hc.lt
 have HW1b := Lib.hid w1b
 have Hin := Lib.hid (fun wx (hx : Bl w1 wx) => by have h := sumsIn_any p g W H (inkV (noInk n)) (inkV_bd _) X Y BW BH wx (hs.bl (w1b.trans hx)) hW hH hX hY; rw [noInk_sum] at h; exact h)
 clear hc hs w1b
 go_enter Tryz.func254, Tryz.ntmps254
 go_upto_region 1 with fail
 rw [show (w.alloc (.cells #[.int .i64 X, .int .i64 Y, .int .i64 BW, .int .i64 BH] 26)).alloc (.cells #[.int .i64 0, .int .i64 0, .int .i64 0, .int .i64 0] 26) = w1 from rfl]
 clear_value w1
 refine wp_region_flow [(true, 0), (true, 1), (true, 2), (true, 3), (true, 4), (false, 5), (true, 6)] (fun _ => false) (by kernel_rfl) (by kernel_rfl) (by kernel_rfl) (by kernel_rfl) ?_
 iterate 1
  apply Flow.mv _ rfl
  · intro K' hK'
    simp only [sqA, Act.eval, arr_getD, List.getD_cons_zero]
    exact hK'
 iterate 4
  apply Flow.calm2 _ _ rfl rfl
  · intro w' hb' K' hK'
    obtain ⟨hc', hf'⟩ := hb'.rule
    go_simp
    try go_ints
    exact hK'
  · intro K' hK'
    simp only [sqA]
    exact hK'
 apply Flow.move rfl
 go_wp2_with fail
 refine (Hin.out _ (Bl.refl _).drew).mono ?_
 rintro e w2 ⟨rfl, HB1⟩
 have hb2 : Bl w1 w2 := Bl.ofDrew HB1
 have k1 := (w11.bl hb2).all4
 have B2 := Lib.hid (w12.bl hb2)
 have k3 := B2.out.all4
 go_wp2_with fail
 refine ⟨fun _ => (by first | exact HB1 | exact Bl.refl _), ?_⟩
 iterate 1
  apply Flow.calm2 _ _ rfl rfl
  · intro w' hb' K' hK'
    obtain ⟨hc', hf'⟩ := hb'.rule
    go_simp
    try go_ints
    exact hK'
  · intro K' hK'
    simp only [sqA]
    exact hK'
 refine Flow.done ?_
 have Hb2 := Lib.hid hb2
 clear HB1 hb2
 go_wp2_with fail
 obtain ⟨wS, hwS⟩ : ∃ x, x = (((w2.setCell ⟨w.heap.size + 1, 0, none⟩ (.int .i64 X)).setCell ⟨w.heap.size + 1, 1, none⟩ (.int .i64 Y)).setCell ⟨w.heap.size + 1, 2, none⟩ (.int .i64 BW)).setCell ⟨w.heap.size + 1, 3, none⟩ (.int .i64 BH) := ⟨_, rfl⟩
 have bS : Blk wS (w.heap.size + 1) 26 #[.int .i64 X, .int .i64 Y, .int .i64 BW, .int .i64 BH] := by rw [hwS]; exact (((B2.out.set_ 0 _).set_ 1 _).set_ 2 _).set_ 3 _
 have hS : Bl w wS := by rw [hwS]; exact ((((HW1b.out.trans Hb2.out).setCell (Nat.le_succ _) _).setCell (Nat.le_succ _) _).setCell (Nat.le_succ _) _).setCell (Nat.le_succ _) _
 rw [← hwS]
 have kF := bS.all4
 refine bodyPost_ret (v := .tuple #[.agg #[.int .i64 X, .int .i64 Y, .int .i64 BW, .int .i64 BH], .bool false]) (by simp [results, Tryz.results254, go_sem, kF]) rfl ⟨rfl, hS⟩
set_option maxRecDepth 100000 in
set_option maxHeartbeats 2000000 in
theorem cut_none (c p g W H n X Y BW BH : Nat) (b0 b1 : Int) (b2 gx gy out : Value) (w : World) (hc : Blk w c 249 #[.int .i64 b0, .int .i64 b1, b2, .pointer (some ⟨p, 0, none⟩), gx, gy, out]) (hs : IsSums w p g W H (inkV (noInk n))) (hW : W ≤ 4000) (hH : H ≤ 4000) (hX : X + BW ≤ W) (hY : Y + BH ≤ H) :
 Calls Tryz.prog 247 #[.pointer (some ⟨c, 0, none⟩), .agg #[.int .i64 X, .int .i64 Y, .int .i64 BW, .int .i64 BH]] w fun e w' => e = .returned (.bool true) ∧ Bl w w' := by
 let w1 := ((w).alloc (.cells #[.pointer (some ⟨c, 0, none⟩)] 245)).alloc (.cells #[.int .i64 X, .int .i64 Y, .int .i64 BW, .int .i64 BH] 26)
 have w1b : Bl w w1 := ((Bl.refl w).alloc _).alloc _
 have w11 : Blk w1 (w.heap.size) 245 #[.pointer (some ⟨c, 0, none⟩)] := by
  have h0 := Blk.new (w) 245 #[.pointer (some ⟨c, 0, none⟩)]
  exact (h0.alloc _)
 have w12 : Blk w1 (w.heap.size + 1) 26 #[.int .i64 X, .int .i64 Y, .int .i64 BW, .int .i64 BH] := by
  have h0 := Blk.new ((w).alloc (.cells #[.pointer (some ⟨c, 0, none⟩)] 245)) 26 #[.int .i64 X, .int .i64 Y, .int .i64 BW, .int .i64 BH]
  simp only [World.size_alloc] at h0
  exact h0
 have k1 := w11.all1
 have k2 := w12.all4
 have HW1b := Lib.hid w1b
 have Ht := Lib.hid (tight_none c p g W H n X Y BW BH b0 b1 b2 gx gy out w1 (hc.bl w1b) (hs.bl w1b) hW hH hX hY)
 clear hc hs w1b
 go_enter Tryz.func247, Tryz.ntmps247
 go_upto_region 1 with fail
 rw [show (w.alloc (.cells #[.pointer (some ⟨c, 0, none⟩)] 245)).alloc (.cells #[.int .i64 X, .int .i64 Y, .int .i64 BW, .int .i64 BH] 26) = w1 from rfl]
 clear_value w1
 go_wp2_with (go_at_call 254; refine Ht.out.mono ?_; rintro e w2 ⟨rfl, hb2⟩; have k2 := (w12.bl hb2).all4; have Hb2 := Lib.hid hb2; clear hb2)
 go_ret
 exact ⟨rfl, ((((HW1b.out.trans Hb2.out).setCell (Nat.le_succ _) _).setCell (Nat.le_succ _) _).setCell (Nat.le_succ _) _).setCell (Nat.le_succ _) _⟩
set_option maxRecDepth 100000 in
set_option maxHeartbeats 2000000 in
theorem splitB_none (W H : Nat) (C : Option Addr) (cc : Nat) (gx gy : Int) (w : World) (hz : sizeErr (W : Int) (H : Int) = 0) (hC : Reads w 1 C (W * H) ((noInk (W * H)).map .bool)) (hgx : badGapB gx = false) (hgy : badGapB gy = false) :
 Calls Tryz.prog 161 #[.agg #[.int .i64 W, .int .i64 H, .slice C (W * H) cc], .agg #[.int .i64 0, .int .i64 0, .int .i64 W, .int .i64 H], .int .i64 gx, .int .i64 gy] w fun e w' => e = .returned (.tuple #[.slice none 0 0, .int .i64 0]) ∧ Bl w w' := by
 have hz' := sizeErr_zero hz
 have hcu : cutErr W H (W * H) 0 0 W H = 0 := by
  unfold cutErr
  rw [show pageErr (W : Int) (H : Int) (W * H) = 0 by unfold pageErr; rw [if_pos hz, if_pos (by simp)], show inPageB 0 0 (W : Int) (H : Int) (W : Int) (H : Int) = true by unfold inPageB; simp; omega]
  rfl
 have Hcb := Lib.hid (fun wx => checkBoth_any W H C (W * H) cc 0 0 W H wx)
 rw [hcu] at Hcb
 let w1 := ((w).alloc (.cells #[.int .i64 W, .int .i64 H, .slice C (W * H) cc] 24)).alloc (.cells #[.int .i64 0, .int .i64 0, .int .i64 W, .int .i64 H] 26)
 have w1b : Bl w w1 := ((Bl.refl w).alloc _).alloc _
 have w11 : Blk w1 (w.heap.size) 24 #[.int .i64 W, .int .i64 H, .slice C (W * H) cc] := by
  have h0 := Blk.new (w) 24 #[.int .i64 W, .int .i64 H, .slice C (W * H) cc]
  exact (h0.alloc _)
 have w12 : Blk w1 (w.heap.size + 1) 26 #[.int .i64 0, .int .i64 0, .int .i64 W, .int .i64 H] := by
  have h0 := Blk.new ((w).alloc (.cells #[.int .i64 W, .int .i64 H, .slice C (W * H) cc] 24)) 26 #[.int .i64 0, .int .i64 0, .int .i64 W, .int .i64 H]
  simp only [World.size_alloc] at h0
  exact h0
 have k1 := w11.all3
 have k2 := w12.all4
 have HW1b := Lib.hid w1b
 have HC := Lib.hid (hC.bl w1b)
 have hany : [gx, gy].any badGapB = false := by simp [hgx, hgy]
 have Hbg := Lib.hid (fun wx (g : Nat) (hb : Blk wx g 3 #[.int .i64 gx, .int .i64 gy]) => by have h := badGap_any (some ⟨g, 0, none⟩) 2 [gx, gy] wx (hb.reads 2 1 rfl) (by simp); rw [hany] at h; exact h)
 have Hsm := Lib.hid (fun wx (hx : Bl w1 wx) => inkSums_any W H C cc (noInk (W * H)) wx (hC.bl (w1b.trans hx)) (by omega) (by omega))
 have hW4 : W ≤ 4000 := by omega
 have hH4 : H ≤ 4000 := by omega
 clear hC w1b hcu hany hgx hgy
 go_enter Tryz.func161, Tryz.ntmps161
 go_upto_region 1 with fail
 rw [show (w.alloc (.cells #[.int .i64 W, .int .i64 H, .slice C (W * H) cc] 24)).alloc (.cells #[.int .i64 0, .int .i64 0, .int .i64 W, .int .i64 H] 26) = w1 from rfl]
 clear_value w1
 go_upto_region 4 with (go_at_call 34; refine (Hcb.out _).mono ?_; rintro e w2 ⟨rfl, hb2⟩)
 have Hb2 := Lib.hid hb2
 clear hb2
 go_upto_region 6 with (go_at_call 159; refine (Hbg.out _ _ (Blk.new _ _ _)).mono ?_; rintro e w3 ⟨rfl, hb3⟩)
 have Hb3 := Lib.hid (Hb2.out.trans ((Bl.refl _).alloc _ |>.trans hb3))
 have k1 := (w11.bl Hb3.out).all3
 have k2 := (w12.bl Hb3.out).all4
 clear hb3
 refine wp_region_flow [(true, 0), (true, 1), (true, 3), (true, 4), (false, 2), (true, 5), (false, 6), (true, 7)] (fun _ => false) (by kernel_rfl) (by kernel_rfl) (by kernel_rfl) (by kernel_rfl) ?_
 iterate 2
  apply Flow.calm2 _ _ rfl rfl
  · intro w' hb' K' hK'
    obtain ⟨hc', hf'⟩ := hb'.rule
    go_simp
    try go_ints
    exact hK'
  · intro K' hK'
    simp only [sqA]
    exact hK'
 iterate 2
  apply Flow.mv _ rfl
  · intro K' hK'
    simp only [sqA, Act.eval, arr_getD, List.getD_cons_zero, List.getD_cons_succ]
    exact hK'
 apply Flow.move rfl
 go_wp2_with fail
 refine (Hsm.out _ (Hb3.out.drew)).mono ?_
 rintro e w4 ⟨p, g, rfl, hs4, HB1⟩
 have hb4 : Bl w3 w4 := Bl.ofDrew HB1
 go_wp2_with fail
 refine ⟨fun _ => (by first | exact HB1 | exact Bl.refl _), ?_⟩
 iterate 1
  apply Flow.calm2 _ _ rfl rfl
  · intro w' hb' K' hK'
    obtain ⟨hc', hf'⟩ := hb'.rule
    go_simp
    try go_ints
    exact hK'
  · intro K' hK'
    simp only [sqA]
    exact hK'
 apply Flow.move rfl
 go_wp2_with fail
 first | refine ⟨fun _ => ?_, ?_⟩ | refine ⟨?_, ?_⟩
 · repeat' (first | exact Bl.refl _ | refine Bl.drewL ?_ | refine Bl.drew ?_ | refine Bl.alloc ?_ _)
 iterate 1
  apply Flow.asg _ rfl
  · intro K' hK'
    simp only [sqA, Act.eval, arr_getD, List.getD_cons_zero, List.getD_cons_succ]
    exact hK'
 refine Flow.done ?_
 have Hb4 := Lib.hid (Hb3.out.trans hb4)
 have HS := Lib.hid hs4
 have k2 := (w12.bl Hb4.out).all4
 clear HB1 hb4 hs4
 obtain ⟨c, hc⟩ : ∃ x, x = w4.heap.size := ⟨_, rfl⟩
 obtain ⟨w5, hw5⟩ : ∃ x, x = w4.alloc (.cells #[.int .i64 W, .int .i64 H, .slice C (W * H) cc, .pointer (some ⟨p, 0, none⟩), .int .i64 gx, .int .i64 gy, .slice none 0 0] 249) := ⟨_, rfl⟩
 have b5 : Blk w5 c 249 #[.int .i64 W, .int .i64 H, .slice C (W * H) cc, .pointer (some ⟨p, 0, none⟩), .int .i64 gx, .int .i64 gy, .slice none 0 0] := by rw [hw5, hc]; exact Blk.new _ _ _
 have hb5 : Bl w4 w5 := by rw [hw5]; exact (Bl.refl _).alloc _
 rw [← hw5, ← hc]
 have B5 := Lib.hid b5; have Hb5 := Lib.hid (Hb4.out.trans hb5)
 have k2 := (w12.bl Hb5.out).all4
 have Hcut := Lib.hid (show Calls Tryz.prog 247 #[.pointer (some ⟨c, 0, none⟩), .agg #[.int .i64 0, .int .i64 0, .int .i64 W, .int .i64 H]] w5 fun e w' => e = .returned (.bool true) ∧ Bl w5 w' from
  cut_none c p g W H (W * H) 0 0 W H W H _ _ _ _ w5 b5 (HS.out.bl hb5) hW4 hH4 (by omega) (by omega))
 clear hw5 hc b5 hb5 k1
 go_upto_region 9 with (go_at_call 247; refine Hcut.out.mono ?_; rintro e w6 ⟨rfl, hb6⟩)
 have k5 := (B5.out.bl hb6).all7
 have lc := (B5.out.bl hb6).lt
 have Hb6 := Lib.hid (Hb5.out.trans hb6)
 clear hb6 k2
 go_wp2_with fail
 go_ret2
 exact ⟨rfl, HW1b.out.trans Hb6.out⟩
/-! ### part.Layout of a page without ink -/
set_option maxRecDepth 100000 in
set_option maxHeartbeats 2000000 in
theorem layout_none (W H : Nat) (C : Option Addr) (cc : Nat) (le gx gy ln wd : Int) (w : World) (hz : sizeErr (W : Int) (H : Int) = 0) (hC : Reads w 1 C (W * H) ((noInk (W * H)).map .bool)) (hle : 1 ≤ le ∧ le ≤ 1048576) (hgx : badGapB gx = false) (hgy : badGapB gy = false) (hln : badGapB ln = false) (hwd : 0 ≤ wd ∧ wd ≤ 4000) :
 Calls Tryz.prog 92 #[.agg #[.int .i64 W, .int .i64 H, .slice C (W * H) cc], .agg #[.int .i64 le, .int .i64 gx, .int .i64 gy, .int .i64 ln, .int .i64 wd]] w fun e w' => e = .returned (.tuple #[.slice none 0 0, .int .i64 0]) ∧ Bl w w' := by
 have hz' := sizeErr_zero hz
 have Hcb := Lib.hid (fun wx => checkBits_any W H C (W * H) cc wx)
 rw [show pageErr (W : Int) (H : Int) (W * H) = 0 by unfold pageErr; rw [if_pos hz, if_pos (by simp)]] at Hcb
 let w1 := ((w).alloc (.cells #[.int .i64 W, .int .i64 H, .slice C (W * H) cc] 24)).alloc (.cells #[.int .i64 le, .int .i64 gx, .int .i64 gy, .int .i64 ln, .int .i64 wd] 96)
 have w1b : Bl w w1 := ((Bl.refl w).alloc _).alloc _
 have w11 : Blk w1 (w.heap.size) 24 #[.int .i64 W, .int .i64 H, .slice C (W * H) cc] := by
  have h0 := Blk.new (w) 24 #[.int .i64 W, .int .i64 H, .slice C (W * H) cc]
  exact (h0.alloc _)
 have w12 : Blk w1 (w.heap.size + 1) 96 #[.int .i64 le, .int .i64 gx, .int .i64 gy, .int .i64 ln, .int .i64 wd] := by
  have h0 := Blk.new ((w).alloc (.cells #[.int .i64 W, .int .i64 H, .slice C (W * H) cc] 24)) 96 #[.int .i64 le, .int .i64 gx, .int .i64 gy, .int .i64 ln, .int .i64 wd]
  simp only [World.size_alloc] at h0
  exact h0
 have sz1 : w1.heap.size = w.heap.size + 2 := by simp [w1]
 have k1 := w11.all3
 have k2 := w12.all5
 have HW1b := Lib.hid w1b
 have HC := Lib.hid (hC.bl w1b)
 have hany : [gx, gy, ln].any badGapB = false := by simp [hgx, hgy, hln]
 have Hbg := Lib.hid (fun wx (g : Nat) (hb : Blk wx g 3 #[.int .i64 gx, .int .i64 gy, .int .i64 ln]) => by have h := badGap_any (some ⟨g, 0, none⟩) 3 [gx, gy, ln] wx (hb.reads 3 1 rfl) (by simp); rw [hany] at h; exact h)
 have Hgx := Lib.hid hgx; have Hgy := Lib.hid hgy; have Hz := Lib.hid hz
 have hW4 : W ≤ 4000 := by omega
 have hH4 : H ≤ 4000 := by omega
 clear hC w1b hany hgx hgy hln hz hz'
 go_enter Tryz.func92, Tryz.ntmps92
 go_upto_region 1 with fail
 rw [show (w.alloc (.cells #[.int .i64 W, .int .i64 H, .slice C (W * H) cc] 24)).alloc (.cells #[.int .i64 le, .int .i64 gx, .int .i64 gy, .int .i64 ln, .int .i64 wd] 96) = w1 from rfl]
 clear_value w1
 go_upto_region 4 with (go_at_call 84; refine (Hcb.out _).mono ?_; rintro e w2 ⟨rfl, hb2⟩)
 have Hb2 := Lib.hid hb2
 have k2 := (w12.bl hb2).all5
 clear hb2 k1
 go_upto_region 6 with (go_at_call 159; refine (Hbg.out _ _ (Blk.new _ _ _)).mono ?_; rintro e w3 ⟨rfl, hb3⟩; have Hb3 := Lib.hid (Hb2.out.trans ((Bl.refl _).alloc _ |>.trans hb3)); have k2 := (w12.bl Hb3.out).all5)
 have B3 := Lib.hid (w11.bl Hb3.out)
 have k1 := B3.out.all3
 have hcall := specks_none W H C cc (le - 1) w3 Hz.out (HC.out.bl Hb3.out) (by omega)
 have Hcall := Lib.hid hcall
 have hle3 := Hb3.out.le
 have lp := B3.out.lt
 clear hb3 hcall
 go_wp2_with (go_at_call 160; refine Hcall.out.mono ?_; rintro e w4 ⟨v4, rfl, ⟨R, rc, rfl, hr4, hn4⟩, hb4⟩; have B4 := Lib.hid (B3.out.bl hb4); have k1 := B4.out.all3; have Hb4 := Lib.hid (Hb3.out.trans hb4); have k2 := (w12.bl Hb4.out).all5; have HR4 := Lib.hid hr4; have Hn4 := Lib.hid hn4; clear hr4 hn4 hb4)
 obtain ⟨w5, hw5⟩ : ∃ x, x = ((w4.setCell ⟨w.heap.size, 0, none⟩ (.int .i64 W)).setCell ⟨w.heap.size, 1, none⟩ (.int .i64 H)).setCell ⟨w.heap.size, 2, none⟩ (.slice R (W * H) rc) := ⟨_, rfl⟩
 have b5 : Blk w5 w.heap.size 24 #[.int .i64 W, .int .i64 H, .slice R (W * H) rc] := by rw [hw5]; exact ((B4.out.set_ 0 _).set_ 1 _).set_ 2 _
 have hne : w.heap.size + 1 ≠ w.heap.size := by omega
 have c5 : Blk w5 (w.heap.size + 1) 96 #[.int .i64 le, .int .i64 gx, .int .i64 gy, .int .i64 ln, .int .i64 wd] := by rw [hw5]; exact (((w12.bl Hb4.out).far hne _).far hne _).far hne _
 have hb5 : Bl w w5 := by rw [hw5]; exact (((HW1b.out.trans Hb4.out).setCell (Nat.le_refl _) _).setCell (Nat.le_refl _) _).setCell (Nat.le_refl _) _
 have hr5 : Reads w5 1 R (W * H) ((noInk (W * H)).map .bool) := by rw [hw5]; exact ((HR4.out.store Hn4.out lp _).store Hn4.out lp _).store Hn4.out lp _
 have B5 := Lib.hid b5; have C5 := Lib.hid c5; have Hb5 := Lib.hid hb5; have HR5 := Lib.hid hr5
 rw [← hw5]
 clear hw5 b5 c5 hb5 hr5 hne
 have Hsp := Lib.hid (splitB_none W H R rc gx gy w5 Hz.out HR5.out Hgx.out Hgy.out)
 refine Hsp.out.mono ?_
 rintro e w6 ⟨rfl, hb6⟩
 have k1 := (B5.out.bl hb6).all3
 have Hb56 := Lib.hid hb6
 clear hb6 k2
 go_upto_region 12 with fail
 have Hsm := Lib.hid (fun wx (hx : Bl w5 wx) => inkSums_any W H R rc (noInk (W * H)) wx (HR5.out.bl hx) hW4 hH4)
 refine wp_region_flow [(true, 0), (true, 1), (false, 2), (true, 3), (false, 4), (true, 5)] (fun _ => false) (by kernel_rfl) (by kernel_rfl) (by kernel_rfl) (by kernel_rfl) ?_
 iterate 2
  apply Flow.calm2 _ _ rfl rfl
  · intro w' hb' K' hK'
    obtain ⟨hc', hf'⟩ := hb'.rule
    go_simp
    try go_ints
    exact hK'
  · intro K' hK'
    simp only [sqA]
    exact hK'
 apply Flow.move rfl
 go_wp2_with fail
 refine (Hsm.out _ (Hb56.out.drew)).mono ?_
 rintro e w7 ⟨p, g, rfl, hs7, HB1⟩
 go_wp2_with fail
 refine ⟨fun _ => (by first | exact HB1 | exact Bl.refl _), ?_⟩
 iterate 1
  apply Flow.calm2 _ _ rfl rfl
  · intro w' hb' K' hK'
    obtain ⟨hc', hf'⟩ := hb'.rule
    go_simp
    try go_ints
    exact hK'
  · intro K' hK'
    simp only [sqA]
    exact hK'
 apply Flow.move rfl
 go_wp2_with fail
 first | refine ⟨fun _ => ?_, ?_⟩ | refine ⟨?_, ?_⟩
 · repeat' (first | exact Bl.refl _ | refine Bl.drewL ?_ | refine Bl.drew ?_ | refine Bl.alloc ?_ _)
 iterate 1
  apply Flow.asg _ rfl
  · intro K' hK'
    simp only [sqA, Act.eval, arr_getD, List.getD_cons_zero, List.getD_cons_succ]
    exact hK'
 refine Flow.done ?_
 have Hb7 := Lib.hid (Hb5.out.trans (Hb56.out.trans ((Bl.ofDrew HB1).alloc (.cells #[.int .i64 W, .int .i64 H, .slice R (W * H) rc, .pointer (some ⟨p, 0, none⟩), .int .i64 0, .int .i64 0, .slice none 0 0] 249))))
 clear HB1 hs7 k1
 go_wp2_with fail
 refine wp_loop_rounds 1 ?_
 rw [rounds_succ]
 go_wp2_with fail
 go_ret2
 exact ⟨rfl, Hb7.out⟩
/-! ### desk.Check, and whether recipes are looked at -/
theorem check1_out (n lo hi : Int) (w : World) (h : lo ≤ n ∧ n ≤ hi) : Calls Tryz.prog 91 #[.int .i64 n, .int .i64 lo, .int .i64 hi] w fun e w' => e = .returned (.bool false) ∧ Bl w w' := by
 have HX := Lib.hid (show (decide (n < lo) || decide (hi < n)) = false by rw [decide_eq_false (by omega), decide_eq_false (by omega)]; rfl)
 go_enter Tryz.func91, Tryz.ntmps91
 go_wp2_with fail
 go_ret
 exact ⟨by rw [← HX.out]; rfl, Bl.refl _⟩
theorem check1_high (n lo hi : Int) (w : World) (h : lo ≤ n) (h2 : hi < n) : Calls Tryz.prog 91 #[.int .i64 n, .int .i64 lo, .int .i64 hi] w fun e w' => e = .returned (.bool true) ∧ Bl w w' := by
 have HX := Lib.hid (show (decide (n < lo) || decide (hi < n)) = true by rw [decide_eq_true h2, Bool.or_true])
 go_enter Tryz.func91, Tryz.ntmps91
 go_wp2_with fail
 go_ret
 exact ⟨by rw [← HX.out]; rfl, Bl.refl _⟩
def recipeV (lv : Int) (le gx gy ln wd : Int) (bl : Int) : Array Value := #[.int .i64 lv, .int .i64 0, .int .i64 0, .int .i64 0, .bool false, .int .i64 0, .int .i64 0, .int .i64 0, .int .i64 le, .int .i64 gx, .int .i64 gy, .int .i64 ln, .int .i64 wd, .string ⟨#[]⟩, .bool false, .int .i64 0, .int .i64 bl, .int .i64 0, .slice none 0 0]
theorem rec_cells {w : World} {g : Nat} {lv le gx gy ln wd bl : Int} (k : Blk w g 101 #[.int .i64 lv, .int .i64 0, .int .i64 0, .int .i64 0, .bool false, .int .i64 0, .int .i64 0, .int .i64 0, .int .i64 le, .int .i64 gx, .int .i64 gy, .int .i64 ln, .int .i64 wd, .string ⟨#[]⟩, .bool false, .int .i64 0, .int .i64 bl, .int .i64 0, .slice none 0 0]) : w.cell? ⟨g, 0, none⟩ = some (.int .i64 lv) ∧ w.cell? ⟨g, 1, none⟩ = some (.int .i64 0) ∧ w.cell? ⟨g, 2, none⟩ = some (.int .i64 0) ∧ w.cell? ⟨g, 3, none⟩ = some (.int .i64 0) ∧ w.cell? ⟨g, 4, none⟩ = some (.bool false) ∧ w.cell? ⟨g, 5, none⟩ = some (.int .i64 0) ∧ w.cell? ⟨g, 6, none⟩ = some (.int .i64 0) ∧ w.cell? ⟨g, 7, none⟩ = some (.int .i64 0) ∧ w.cell? ⟨g, 8, none⟩ = some (.int .i64 le) ∧ w.cell? ⟨g, 9, none⟩ = some (.int .i64 gx) ∧ w.cell? ⟨g, 10, none⟩ = some (.int .i64 gy) ∧ w.cell? ⟨g, 11, none⟩ = some (.int .i64 ln) ∧ w.cell? ⟨g, 12, none⟩ = some (.int .i64 wd) ∧ w.cell? ⟨g, 13, none⟩ = some (.string ⟨#[]⟩) ∧ w.cell? ⟨g, 14, none⟩ = some (.bool false) ∧ w.cell? ⟨g, 15, none⟩ = some (.int .i64 0) ∧ w.cell? ⟨g, 16, none⟩ = some (.int .i64 bl) ∧ w.cell? ⟨g, 17, none⟩ = some (.int .i64 0) ∧ w.cell? ⟨g, 18, none⟩ = some (.slice none 0 0) ∧ ∀ i, w.frozen? ⟨g, i, none⟩ = false :=
 ⟨k.cell 0, k.cell 1, k.cell 2, k.cell 3, k.cell 4, k.cell 5, k.cell 6, k.cell 7, k.cell 8, k.cell 9, k.cell 10, k.cell 11, k.cell 12, k.cell 13, k.cell 14, k.cell 15, k.cell 16, k.cell 17, k.cell 18, k.frozen⟩
set_option maxRecDepth 100000 in
set_option maxHeartbeats 2000000 in
theorem checkBad_any (w : World) : Calls Tryz.prog 43 #[.agg (recipeV 300 0 0 0 0 0 0)] w fun e w' => e = .returned (.int .i64 3) ∧ Bl w w' := by
 unfold recipeV
 have hent := enters Tryz.func91 (by kernel_rfl) rfl
 let w1 := (w).alloc (.cells #[.int .i64 300, .int .i64 0, .int .i64 0, .int .i64 0, .bool false, .int .i64 0, .int .i64 0, .int .i64 0, .int .i64 0, .int .i64 0, .int .i64 0, .int .i64 0, .int .i64 0, .string ⟨#[]⟩, .bool false, .int .i64 0, .int .i64 0, .int .i64 0, .slice none 0 0] 101)
 have w1b : Bl w w1 := (Bl.refl w).alloc _
 have w11 : Blk w1 (w.heap.size) 101 #[.int .i64 300, .int .i64 0, .int .i64 0, .int .i64 0, .bool false, .int .i64 0, .int .i64 0, .int .i64 0, .int .i64 0, .int .i64 0, .int .i64 0, .int .i64 0, .int .i64 0, .string ⟨#[]⟩, .bool false, .int .i64 0, .int .i64 0, .int .i64 0, .slice none 0 0] := by
  have h0 := Blk.new (w) 101 #[.int .i64 300, .int .i64 0, .int .i64 0, .int .i64 0, .bool false, .int .i64 0, .int .i64 0, .int .i64 0, .int .i64 0, .int .i64 0, .int .i64 0, .int .i64 0, .int .i64 0, .string ⟨#[]⟩, .bool false, .int .i64 0, .int .i64 0, .int .i64 0, .slice none 0 0]
  exact h0
 have k1 := rec_cells w11
 have HW1b := Lib.hid w1b
 clear w1b
 go_enter Tryz.func43, Tryz.ntmps43
 go_wp2_with fail
 refine (check1_high 300 (-1) 256 _ (by decide) (by decide)).mono ?_
 rintro e w2 ⟨rfl, hb2⟩
 have Hb2 := Lib.hid hb2
 clear hb2
 go_wp2_with fail
 go_ret
 exact ⟨rfl, HW1b.out.trans Hb2.out⟩
set_option maxRecDepth 100000 in
set_option maxHeartbeats 4000000 in
theorem checkPlain_any (w : World) : Calls Tryz.prog 43 #[.agg (recipeV 128 1 200 200 1 0 (-1))] w fun e w' => e = .returned (.int .i64 0) ∧ Bl w w' := by
 unfold recipeV
 have hent := enters Tryz.func91 (by kernel_rfl) rfl
 let w1 := (w).alloc (.cells #[.int .i64 128, .int .i64 0, .int .i64 0, .int .i64 0, .bool false, .int .i64 0, .int .i64 0, .int .i64 0, .int .i64 1, .int .i64 200, .int .i64 200, .int .i64 1, .int .i64 0, .string ⟨#[]⟩, .bool false, .int .i64 0, .int .i64 (-1), .int .i64 0, .slice none 0 0] 101)
 have w1b : Bl w w1 := (Bl.refl w).alloc _
 have w11 : Blk w1 (w.heap.size) 101 #[.int .i64 128, .int .i64 0, .int .i64 0, .int .i64 0, .bool false, .int .i64 0, .int .i64 0, .int .i64 0, .int .i64 1, .int .i64 200, .int .i64 200, .int .i64 1, .int .i64 0, .string ⟨#[]⟩, .bool false, .int .i64 0, .int .i64 (-1), .int .i64 0, .slice none 0 0] := by
  have h0 := Blk.new (w) 101 #[.int .i64 128, .int .i64 0, .int .i64 0, .int .i64 0, .bool false, .int .i64 0, .int .i64 0, .int .i64 0, .int .i64 1, .int .i64 200, .int .i64 200, .int .i64 1, .int .i64 0, .string ⟨#[]⟩, .bool false, .int .i64 0, .int .i64 (-1), .int .i64 0, .slice none 0 0]
  exact h0
 have k1 := rec_cells w11
 have HW1b := Lib.hid w1b
 clear w1b
 go_enter Tryz.func43, Tryz.ntmps43
 go_upto_region 1 with fail
 rw [show w.alloc (.cells #[.int .i64 128, .int .i64 0, .int .i64 0, .int .i64 0, .bool false, .int .i64 0, .int .i64 0, .int .i64 0, .int .i64 1, .int .i64 200, .int .i64 200, .int .i64 1, .int .i64 0, .string ⟨#[]⟩, .bool false, .int .i64 0, .int .i64 (-1), .int .i64 0, .slice none 0 0] 101) = w1 from rfl]
 clear_value w1
 go_wp2_with fail
 refine (check1_out 128 (-1) 256 _ (by decide)).mono ?_
 rintro e w2 ⟨rfl, hb⟩
 have HB2 := Lib.hid (hb)
 have k1 := rec_cells (w11.bl HB2.out)
 clear hb
 go_wp2_with fail
 refine (check1_out 0 0 1048576 _ (by decide)).mono ?_
 rintro e w3 ⟨rfl, hb⟩
 have HB3 := Lib.hid (HB2.out.trans hb)
 have k1 := rec_cells (w11.bl HB3.out)
 clear hb
 go_wp2_with fail
 refine (check1_out 0 0 1048576 _ (by decide)).mono ?_
 rintro e w4 ⟨rfl, hb⟩
 have HB4 := Lib.hid (HB3.out.trans hb)
 have k1 := rec_cells (w11.bl HB4.out)
 clear hb
 go_wp2_with fail
 refine (check1_out 0 0 256 _ (by decide)).mono ?_
 rintro e w5 ⟨rfl, hb⟩
 have HB5 := Lib.hid (HB4.out.trans hb)
 have k1 := rec_cells (w11.bl HB5.out)
 clear hb
 go_wp2_with fail
 refine (check1_out 0 0 1000 _ (by decide)).mono ?_
 rintro e w6 ⟨rfl, hb⟩
 have HB6 := Lib.hid (HB5.out.trans hb)
 have k1 := rec_cells (w11.bl HB6.out)
 clear hb
 go_wp2_with fail
 refine (check1_out 0 0 4000 _ (by decide)).mono ?_
 rintro e w7 ⟨rfl, hb⟩
 have HB7 := Lib.hid (HB6.out.trans hb)
 have k1 := rec_cells (w11.bl HB7.out)
 clear hb
 go_wp2_with fail
 refine (check1_out 0 0 10000 _ (by decide)).mono ?_
 rintro e w8 ⟨rfl, hb⟩
 have HB8 := Lib.hid (HB7.out.trans hb)
 have k1 := rec_cells (w11.bl HB8.out)
 clear hb
 go_wp2_with fail
 refine (show Calls Tryz.prog 86 #[.int .i64 1, .int .i64 1] w8 fun e w' => ∃ v, e = .returned (.tuple #[v, .int .i64 0]) ∧ BPage w8.heap.size w' v 1 1 (List.replicate (1 * 1) false) ∧ Bl w8 w' from blankB_ok 1 1 w8 (by decide)).mono ?_
 rintro e w9 ⟨v9, rfl, ⟨g9, rfl, hg9, hgl9, hgn9⟩, hb9⟩
 obtain ⟨o, ho⟩ : ∃ x, x = w9.heap.size := ⟨_, rfl⟩
 obtain ⟨w10, hw10⟩ : ∃ x, x = w9.alloc (.cells #[.int .i64 1, .int .i64 1, .slice (some ⟨g9, 0, none⟩) 1 1] 24) := ⟨_, rfl⟩
 have b10 : Blk w10 o 24 #[.int .i64 1, .int .i64 1, .slice (some ⟨g9, 0, none⟩) 1 1] := by rw [hw10, ho]; exact Blk.new _ _ _
 have hb10 : Bl w9 w10 := by rw [hw10]; exact (Bl.refl _).alloc _
 have HB10 := Lib.hid (HB8.out.trans (hb9.trans hb10)); have B10 := Lib.hid b10
 have hrd := (hg9.bl hb10).reads 1 1 (by simp)
 have Hly := Lib.hid (show Calls Tryz.prog 92 #[.agg #[.int .i64 1, .int .i64 1, .slice (some ⟨g9, 0, none⟩) 1 1], .agg #[.int .i64 1, .int .i64 200, .int .i64 200, .int .i64 1, .int .i64 0]] w10 fun e w' => e = .returned (.tuple #[.slice none 0 0, .int .i64 0]) ∧ Bl w10 w' from
  layout_none 1 1 (some ⟨g9, 0, none⟩) 1 1 200 200 1 0 w10 (by decide) (by simpa [noInk] using hrd) (by decide) (by decide) (by decide) (by decide) (by decide))
 have k1 := rec_cells (w11.bl HB10.out)
 have k2 := b10.all3
 clear hb9 hg9 hgl9 hgn9 b10 hb10 hrd
 go_upto_region 5 with fail
 rw [← ho, show w9.alloc (.cells #[.int .i64 1, .int .i64 1, .slice (some ⟨g9, 0, none⟩) 1 1] 24) = w10 from hw10.symm]
 clear hw10 ho
 go_upto_region 6 with (go_at_call 92; refine Hly.out.mono ?_; rintro e w11' ⟨rfl, hb11⟩)
 have HB11 := Lib.hid (HB10.out.trans hb11)
 have k1 := rec_cells (w11.bl HB11.out)
 clear hb11 k2
 go_wp2_with (go_at_call 93; refine (splitNone_any _).mono ?_; rintro e w12 ⟨rfl, hb12⟩)
 go_ret
 exact ⟨rfl, HW1b.out.trans (HB11.out.trans hb12)⟩
end Go.Proofs.YthobmednnocklaaGreatDoor


/-! Desks: whether recipes are looked at. -/
namespace Go.Proofs.YthobmednnocklaaGreatDoor
open Go.RowKit Go.Shelf

/-! ### desks -/
set_option maxRecDepth 100000 in
set_option maxHeartbeats 2000000 in
theorem plain_any (w : World) : Calls Tryz.prog 44 #[] w fun e w' => e = .returned (.agg (recipeV 128 1 200 200 1 0 (-1))) ∧ Bl w w' := by
 unfold recipeV
 have hi : (Tryz.prog.info? 101).map (·.size) = some 19 := by kernel_rfl
 go_enter Tryz.func44, Tryz.ntmps44
 go_upto_region 1 with fail
 refine wp_region_lit ?_
 refine wpList_build rfl 96 _ rfl (by kernel_rfl) ?_
 refine wpList_build rfl 99 _ rfl (by kernel_rfl) ?_
 refine wpList_build rfl 101 _ rfl (by kernel_rfl) ?_
 refine wpList_store_row rfl 101 _ _ rfl w.heap.size #[.int .i64 128, .int .i64 0, .int .i64 0, .int .i64 0, .bool false, .int .i64 0, .int .i64 0, .int .i64 0, .int .i64 1, .int .i64 200, .int .i64 200, .int .i64 1, .int .i64 0, .string ⟨#[]⟩, .bool false, .int .i64 0, .int .i64 (-1), .int .i64 0, .slice none 0 0] (by kernel_rfl) (by kernel_rfl) 101 #[.int .i64 0, .int .i64 0, .int .i64 0, .int .i64 0, .bool false, .int .i64 0, .int .i64 0, .int .i64 0, .int .i64 0, .int .i64 0, .int .i64 0, .int .i64 0, .int .i64 0, .string ⟨#[]⟩, .bool false, .int .i64 0, .int .i64 0, .int .i64 0, .slice none 0 0] (heap_alloc_last _ _) (by kernel_rfl) rfl (by kernel_rfl) ?_
 refine wpList_nil ?_
 rw [World.setRow_alloc_new]
 go_step
 go_step
 go_step
 have hr : ∀ tm : Array Value, tm.getD 0 undef = .pointer (some ⟨w.heap.size, 0, none⟩) → (results Tryz.f44 tm).run Tryz.prog (w.alloc (.cells #[.int .i64 128, .int .i64 0, .int .i64 0, .int .i64 0, .bool false, .int .i64 0, .int .i64 0, .int .i64 0, .int .i64 1, .int .i64 200, .int .i64 200, .int .i64 1, .int .i64 0, .string ⟨#[]⟩, .bool false, .int .i64 0, .int .i64 (-1), .int .i64 0, .slice none 0 0] 101)) = .ok (.agg #[.int .i64 128, .int .i64 0, .int .i64 0, .int .i64 0, .bool false, .int .i64 0, .int .i64 0, .int .i64 0, .int .i64 1, .int .i64 200, .int .i64 200, .int .i64 1, .int .i64 0, .string ⟨#[]⟩, .bool false, .int .i64 0, .int .i64 (-1), .int .i64 0, .slice none 0 0]) (w.alloc (.cells #[.int .i64 128, .int .i64 0, .int .i64 0, .int .i64 0, .bool false, .int .i64 0, .int .i64 0, .int .i64 0, .int .i64 1, .int .i64 200, .int .i64 200, .int .i64 1, .int .i64 0, .string ⟨#[]⟩, .bool false, .int .i64 0, .int .i64 (-1), .int .i64 0, .slice none 0 0] 101)) := fun tm htm =>
  results_cell_row (p := 0) (ty := 101) rfl tm _ w.heap.size 101 #[.int .i64 128, .int .i64 0, .int .i64 0, .int .i64 0, .bool false, .int .i64 0, .int .i64 0, .int .i64 0, .int .i64 1, .int .i64 200, .int .i64 200, .int .i64 1, .int .i64 0, .string ⟨#[]⟩, .bool false, .int .i64 0, .int .i64 (-1), .int .i64 0, .slice none 0 0] (0, 0) _ htm (heap_alloc_last _ _) Tryz.underlying101 rfl hi
 show bodyPost Tryz.prog Tryz.f44 _ Exit.ret _ _
 refine bodyPost_ret (hr _ (by kernel_rfl)) (by kernel_rfl) ⟨rfl, (Bl.refl _).alloc _⟩
set_option maxRecDepth 100000 in
set_option maxHeartbeats 2000000 in
theorem desks_any (w : World) : Calls Tryz.prog 13 #[] w fun e w' => e = .returned (.bool true) ∧ Bl w w' := by
 have Hb := Lib.hid (fun wx => checkBad_any wx); have Hp := Lib.hid (fun wx => plain_any wx); have Hc := Lib.hid (fun wx => checkPlain_any wx)
 unfold recipeV at Hb Hp Hc
 go_enter Tryz.func13, Tryz.ntmps13
 go_wp2_with fail
 refine (Hb.out _).mono ?_
 rintro e w2 ⟨rfl, hb2⟩
 go_wp2_with fail
 refine (Hp.out _).mono ?_
 rintro e w3 ⟨rfl, hb3⟩
 go_wp2_with fail
 refine (Hc.out _).mono ?_
 rintro e w4 ⟨rfl, hb4⟩
 go_wp2_with fail
 go_ret
 exact ⟨rfl, hb2.trans (hb3.trans hb4)⟩
end Go.Proofs.YthobmednnocklaaGreatDoor
