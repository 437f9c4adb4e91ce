/- glyph.set. -/
import Derived.Test.YtjelhdpcaileiaaDoorU36
import Derived.Test.YtjelhdpcaileiaaDoorU46
import Derived.Test.YtjelhdpcaileiaaDoorU44

namespace Go.Proofs.YtjelhdpcaileiaaDoor
open Go.RowKit Go.Shelf

set_option maxRecDepth 100000 in
set_option maxHeartbeats 400000 in
theorem blank_new (W H : Nat) (w : World) (hs : sizeErr W H = 0) :
    Calls Tryd.prog 108 #[.int .i64 W, .int .i64 H] w fun e w' =>
      ∃ g, e = .returned (.tuple #[.agg #[.int .i64 W, .int .i64 H, .slice (some ⟨g, 0, none⟩) (W * H) (W * H)], .int .i64 0]) ∧ w.heap.size ≤ g ∧ Blk w' g 4 (tabB (W * H) fun _ => false) ∧ Bl w w' := by
  have hz' := sizeErr_zero hs
  have hWH : (W : Int) * (H : Int) = ((W * H : Nat) : Int) := by simp
  have h1 : (0:Int) ≤ (W:Int) * (H:Int) := by omega
  have h2 : (W:Int) * (H:Int) ≤ 1048576 := by omega
  have hN : W * H ≤ 1048576 := by omega
  have hmk := run_make_row' (P := Tryd.prog) 25 4 (.bool false) 1 Tryd.underlying25 info_bool rfl .i64 .i64 (W * H) (by omega) (by omega)
  rw [← hWH] at hmk
  have hq : (sizeErr W H != 0) = false := by simp [hs]
  have HS := Lib.hid hs; have HWH := Lib.hid hWH
  clear hs hWH
  go_enter Tryd.func108, Tryd.ntmps108
  go_wp2_with (go_at_call 103; refine (checkSize_any _ _ _).mono ?_; rintro e w1 ⟨rfl, rfl⟩)
  rw [tabB_made]
  refine bodyPost_ret (v := .tuple #[.agg #[.int .i64 W, .int .i64 H, .slice (some ⟨w.heap.size + 1, 0, none⟩) (W * H) (W * H)], .int .i64 0]) (by simp [results, Tryd.results108, go_sem]) rfl ⟨_, rfl, ?_, ?_, ?_⟩
  · simp
  · have hb := Blk.new (w.alloc (.cells #[.int .i64 W, .int .i64 H, .slice (some ⟨w.heap.size + 1, 0, none⟩) (W * H) (W * H)] 27)) 4 (tabB (W * H) fun _ => false)
    simpa using hb
  · repeat' (first | exact Bl.refl _ | refine Bl.drew ?_ | refine Bl.setCell ?_ (by simp) _ | refine Bl.alloc ?_ _)


/-- A text's letters, how wide it is, what is wrong with it when it is set, and its pixels. -/
def itemsOf (ls : List Ltr) (t : List UInt8) : List (Option Nat) := (spelt ls t).getD []
def wideOf (ls : List Ltr) (gap sp : Nat) (t : List UInt8) : Nat := (goAll ls gap sp (0, false) (itemsOf ls t)).1
def setErr (ls : List Ltr) (ht gap sp : Nat) (t : List UInt8) : Int := if textErr ls t = 0 then sizeErr (wideOf ls gap sp t) ht else textErr ls t
def setCells (ls : List Ltr) (ht gap sp : Nat) (t : List UInt8) : List Bool := grid (wideOf ls gap sp t) ht (setF ls (putAt ls gap sp (0, false) (itemsOf ls t)))
theorem itemsOf_some {ls : List Ltr} {t : List UInt8} {l : List (Option Nat)} (h : spelt ls t = some l) : itemsOf ls t = l := by unfold itemsOf; rw [h]; rfl
theorem putAt_in {ls : List Ltr} {gap sp : Nat} : ∀ (l : List (Option Nat)) (s : Spot), (∀ k, some k ∈ l → k < ls.length) → ∀ p ∈ putAt ls gap sp s l, p.1 < ls.length
  | [], _, _, p, hp => by cases hp
  | none :: l, _, h, p, hp => putAt_in l _ (fun k hk => h k (List.mem_cons_of_mem _ hk)) p hp
  | some k :: l, s, h, p, hp => by
    rcases List.mem_cons.1 hp with rfl | hp
    · exact h k (List.mem_cons_self ..)
    · exact putAt_in l _ (fun k hk => h k (List.mem_cons_of_mem _ hk)) p hp
/-- What is said of set's answer. -/
def SetGRes (ls : List Ltr) (ht gap sp : Nat) (t : List UInt8) (w : World) (e : Ending) (w' : World) : Prop := ∃ a b R m d, e = .returned (.tuple #[.agg #[.int .i64 a, .int .i64 b, .slice R m d], .int .i64 (setErr ls ht gap sp t)]) ∧
    Res w.heap.size w' (setErr ls ht gap sp t) (wideOf ls gap sp t) ht ((setCells ls ht gap sp t).map .bool) a b R m d ∧ Bl w w'

set_option maxRecDepth 100000 in
set_option maxHeartbeats 8000000 in
theorem setG_any (nm : List UInt8) (ht gap sp : Nat) (adl : Addr) (c : Nat) (ls : List Ltr) (t : List UInt8) (w : World) (hL : LtrsAt w (some adl) ls) (hR : Right ht gap sp ls) (htl : t.length ≤ 9223372036854775807) (hv : SubOk w) :
    Calls Tryd.prog 97 #[.agg #[.string ⟨nm.toArray⟩, .int .i64 ht, .int .i64 gap, .int .i64 sp, .slice (some adl) ls.length c], .string ⟨t.toArray⟩] w (SetGRes ls ht gap sp t w) := by
  let w2 := ((w).alloc (.cells #[.string ⟨nm.toArray⟩, .int .i64 ht, .int .i64 gap, .int .i64 sp, .slice (some adl) ls.length c] 24)).alloc (.cells #[.int .i64 0, .int .i64 0, .slice none 0 0] 27)
  have w2b : Bl w w2 := ((Bl.refl w).alloc _).alloc _
  have w21 : Blk w2 (w.heap.size) 24 #[.string ⟨nm.toArray⟩, .int .i64 ht, .int .i64 gap, .int .i64 sp, .slice (some adl) ls.length c] := by
    have h0 := Blk.new (w) 24 #[.string ⟨nm.toArray⟩, .int .i64 ht, .int .i64 gap, .int .i64 sp, .slice (some adl) ls.length c]
    exact (h0.alloc _)
  have w22 : Blk w2 (w.heap.size + 1) 27 #[.int .i64 0, .int .i64 0, .slice none 0 0] := by
    have h0 := Blk.new ((w).alloc (.cells #[.string ⟨nm.toArray⟩, .int .i64 ht, .int .i64 gap, .int .i64 sp, .slice (some adl) ls.length c] 24)) 27 #[.int .i64 0, .int .i64 0, .slice none 0 0]
    simp only [World.size_alloc] at h0
    exact h0
  have lw2 : w2.heap.size = w.heap.size + 2 := by simp [w2]
  have HL := Lib.hid (hL.bl w2b); have HR := Lib.hid hR
  have hs := spelledG_any nm ht gap sp adl c ls t w2 (hL.bl w2b) hR htl (hv.bl w2b)
  have Hs := Lib.hid hs
  have k1 := w21.all5
  have kz := w22.all3
  clear hL hR hs hv
  go_enter Tryd.func97, Tryd.ntmps97
  go_wp2_with fail
  refine Hs.out.mono ?_
  rintro e w3 ⟨R, m, d, wd, err, rfl, herr, hbad, hok, hb3⟩
  clear_value w2
  have HOk := Lib.hid hok
  have HErr := Lib.hid herr
  have hle3 := hb3.le
  clear k1 kz Hs hbad hok herr
  by_cases hz : err = 0
  case neg =>
    have hq : (err != 0) = true := by simp [hz]
    have hq2 : (err == 0) = false := by simp [hz]
    have HZ := Lib.hid hz
    have hse : setErr ls ht gap sp t = err := by
      unfold setErr
      rw [← HErr.out, if_neg hz]
    have HSe := Lib.hid hse
    have kz := (w22.bl hb3).all3
    clear hz hse
    go_wp2_with fail
    refine bodyPost_ret (v := .tuple #[.agg #[.int .i64 0, .int .i64 0, .slice none 0 0], .int .i64 err]) (by simp [results, Tryd.results97, go_sem, kz]) rfl ⟨0, 0, none, 0, 0, by rw [HSe.out], by rw [HSe.out]; exact Res.zero _ _ _ _ _ HZ.out, ?_⟩
    exact (((w2b.trans hb3).setCell (by simp) _).setCell (by simp) _).setCell (by simp) _
  case pos =>
    subst hz
    obtain ⟨-, l, hl⟩ := textErr_zero HErr.out.symm
    obtain ⟨rfl, rfl, hmt, hrd⟩ := HOk.out rfl l hl
    have hin := putAt_in (gap := gap) (sp := sp) l (0, false) (spelt_in hl)
    have hend := putAt_end (ls := ls) (gap := gap) (sp := sp) l (0, false)
    obtain ⟨W, hW⟩ : ∃ W, W = (goAll ls gap sp (0, false) l).1 := ⟨_, rfl⟩
    obtain ⟨pl, hpl⟩ : ∃ pl, pl = putAt ls gap sp (0, false) l := ⟨_, rfl⟩
    have hwo : wideOf ls gap sp t = W := by unfold wideOf; rw [itemsOf_some hl, hW]
    have hse : setErr ls ht gap sp t = sizeErr W ht := by unfold setErr; rw [← HErr.out, if_pos rfl, hwo]
    have hsc : setCells ls ht gap sp t = grid W ht (setF ls pl) := by unfold setCells; rw [hwo, itemsOf_some hl, hpl]
    rw [← hpl] at hrd hin hend hmt ⊢
    rw [← hW] at hend ⊢
    have HRd := Lib.hid hrd; have HIn := Lib.hid hin; have HEnd := Lib.hid hend; have HWo := Lib.hid hwo; have HSe := Lib.hid hse; have HSc := Lib.hid hsc
    clear hrd hin hend hwo hse hsc hl hpl hW
    have k1 := (w21.bl hb3).all5
    by_cases hse : sizeErr (W : Int) (ht : Int) = 0
    case neg =>
      have hq : (sizeErr (W : Int) (ht : Int) != 0) = true := by simp [hse]
      have hq2 : (sizeErr (W : Int) (ht : Int) == 0) = false := by simp [hse]
      have Hb := Lib.hid (blank_bad (W : Int) (ht : Int) w3 hse)
      have HZ := Lib.hid hse
      clear hse
      go_wp2_with fail
      refine Hb.out.mono ?_
      rintro e w4 ⟨rfl, hb4⟩
      clear k1
      go_upto_region 5 with fail
      obtain ⟨w5, hw5⟩ : ∃ x, x = w4.alloc (.cells #[.int .i64 0, .int .i64 0, .slice none 0 0] 27) := ⟨_, rfl⟩
      have hb45 : Bl w4 w5 := by rw [hw5]; exact (Bl.refl _).alloc _
      rw [← hw5]
      clear hw5
      have hb5 := hb3.trans (hb4.trans hb45)
      have kz := (w22.bl hb5).all3
      go_wp2_with fail
      refine bodyPost_ret (v := .tuple #[.agg #[.int .i64 0, .int .i64 0, .slice none 0 0], .int .i64 (sizeErr (W : Int) (ht : Int))]) (by simp [results, Tryd.results97, go_sem, kz]) rfl ⟨0, 0, none, 0, 0, by rw [HSe.out], by rw [HSe.out]; exact Res.zero _ _ _ _ _ HZ.out, ?_⟩
      exact (((w2b.trans hb5).setCell (by simp) _).setCell (by simp) _).setCell (by simp) _
    case pos =>
      have hsz := sizeErr_zero hse
      have hb := blank_new W ht w3 hse
      have hWH : W * ht ≤ 1048576 := by
        have h1 := hsz.2.2.2.2
        have h2 : ((W * ht : Nat) : Int) = (W : Int) * (ht : Int) := by simp
        omega
      have hW4 : 1 ≤ W ∧ W ≤ 4000 := by omega
      have hH4 : 1 ≤ ht ∧ ht ≤ 4000 := by omega
      have Hb := Lib.hid hb; have HZ := Lib.hid hse
      clear hse hb hsz
      go_wp2_with fail
      refine Hb.out.mono ?_
      rintro e w4 ⟨g, rfl, hg3, hbg, hb4⟩
      clear k1
      go_upto_region 5 with fail
      obtain ⟨w5, hw5⟩ : ∃ x, x = w4.alloc (.cells #[.int .i64 W, .int .i64 ht, .slice (some ⟨g, 0, none⟩) (W * ht) (W * ht)] 27) := ⟨_, rfl⟩
      obtain ⟨p, hp⟩ : ∃ x, x = w4.heap.size := ⟨_, rfl⟩
      have bp5 : Blk w5 p 27 #[.int .i64 W, .int .i64 ht, .slice (some ⟨g, 0, none⟩) (W * ht) (W * ht)] := by rw [hw5, hp]; exact Blk.new _ _ _
      have hb45 : Bl w4 w5 := by rw [hw5]; exact (Bl.refl _).alloc _
      have hpg : p ≠ g := by have := hbg.lt; omega
      have hp3 : w3.heap.size ≤ p := by have := hb4.le; omega
      rw [← hw5, ← hp]
      clear hw5 hp
      have hb35 := hb4.trans hb45
      have bg5 : Blk w5 g 4 (tabB (W * ht) fun k => setF ls (pl.take 0) (k % W) (k / W)) := hbg.bl hb45
      have HG := Lib.hid bg5
      clear hbg bg5
      go_wp2_with fail
      go_loopw [36] (fun u wr => ∃ i : Nat, i ≤ pl.length ∧ u = .int .i64 i ∧ Bl w3 wr ∧ Blk wr p 27 #[.int .i64 W, .int .i64 ht, .slice (some ⟨g, 0, none⟩) (W * ht) (W * ht)] ∧ Blk wr g 4 (tabB (W * ht) fun k => setF ls (pl.take i) (k % W) (k / W))) (fun u _ => pl.length - (RowKit.intOf u).toNat)
      case atStart => exact ⟨0, Nat.zero_le _, rfl, hb35, bp5, HG.out⟩
      case round =>
        obtain ⟨i, hi, rfl, hbr, hbp, hbg⟩ := hrel
        by_cases hlt : i < pl.length
        · have hgi : pl[i]? = some pl[i] := List.getElem?_eq_getElem hlt
          obtain ⟨x, hx⟩ : ∃ x, x = pl[i] := ⟨_, rfl⟩
          rw [← hx] at hgi
          obtain ⟨k, at_⟩ := x
          have hk : k < ls.length := HIn.out _ (List.mem_of_getElem? hgi)
          have hae : at_ + wdOf ls k ≤ W := HEnd.out _ (List.mem_of_getElem? hgi)
          obtain ⟨adp, hR, hcp⟩ := (HRd.out.bl hbr).2 (by omega)
          subst hR
          have c0 := hcp (i * 2 + 0) _ (by rw [placed_at hgi 0 (by omega)]; rfl)
          have c1 := hcp (i * 2 + 1) _ (by rw [placed_at hgi 1 (by omega)]; rfl)
          rw [Nat.add_zero] at c0
          rw [← add_of_add, Addr.add_succ'] at c1
          have htk : pl.take (i + 1) = pl.take i ++ [(k, at_)] := by rw [List.take_add_one, hgi]; rfl
          have hcg : tabB (W * ht) (putF (fun j => setF ls (pl.take i) (j % W) (j / W)) (bsOf ls k) (wdOf ls k) ht at_ 0 W) = tabB (W * ht) (fun j => setF ls (pl.take (i + 1)) (j % W) (j / W)) := tabB_congr fun j hj => by
            rw [htk, setF_append, setF_one]
            have hjy : j / W < ht := Nat.div_lt_of_lt_mul hj
            show (setF ls (pl.take i) (j % W) (j / W) || (winB (wdOf ls k) ht at_ 0 (j % W) (j / W) && pix (bsOf ls k) (wdOf ls k) (j % W - at_) (j / W - 0))) = (setF ls (pl.take i) (j % W) (j / W) || (decide (at_ ≤ j % W) && (decide (j % W < at_ + wdOf ls k) && pix (bsOf ls k) (wdOf ls k) (j % W - at_) (j / W))))
            congr 1
            rw [Nat.sub_zero, ← Bool.and_assoc]
            congr 1
            unfold winB
            rw [Bool.eq_iff_iff]
            simp
            omega
          obtain ⟨-, -, -, -, -, -, hbits⟩ := ltr_at (HL.out.bl hb3) hk
          have hwk := HR.out.wd k hk
          rw [HR.out.ms k hk] at hbits
          obtain ⟨wk, hwk2⟩ : ∃ x, x = wdOf ls k := ⟨_, rfl⟩
          obtain ⟨la, hla⟩ : ∃ x, x = (ls[k]'hk).A := ⟨_, rfl⟩
          obtain ⟨lc, hlc⟩ : ∃ x, x = (ls[k]'hk).c := ⟨_, rfl⟩
          rw [← hwk2] at hbits hae hcg
          rw [← hla] at hbits
          have hwk3 : 1 ≤ wk ∧ wk ≤ 64 := by rw [hwk2]; exact hwk.2
          have hput : ∀ wy, Bl w3 wy → Blk wy g 4 (tabB (W * ht) fun j => setF ls (pl.take i) (j % W) (j / W)) → Calls Tryd.prog 164 #[.agg #[.int .i64 W, .int .i64 ht, .slice (some ⟨g, 0, none⟩) (W * ht) (W * ht)], .agg #[.int .i64 wk, .int .i64 ht, .slice la (wk * ht) lc], .int .i64 at_, .int .i64 0] wy (PutRes w3 g (tabB (W * ht) fun j => setF ls (pl.take (i + 1)) (j % W) (j / W)) wy) := fun wy h1 h2 => by
            have h := put_any W ht wk ht at_ 0 g (W * ht) la lc (bsOf ls k) (fun j => setF ls (pl.take i) (j % W) (j / W)) w3 wy h1 hg3 h2 hbits hW4.2 hH4.2 hWH hae (by omega) hwk3.1
            rw [hcg] at h
            exact h
          have HPut := Lib.hid hput; have HBg := Lib.hid hbg; have HW2 := Lib.hid hwk2; have HLa := Lib.hid hla; have HLc := Lib.hid hlc
          clear hgi hx hcp htk hcg hbits hwk hwk2 hla hlc hput hbg
          go_upto_region 10 with fail
          obtain ⟨w6, hw6⟩ : ∃ x, x = wr.alloc (.cells #[.int .i64 k, .int .i64 at_] 187) := ⟨_, rfl⟩
          obtain ⟨q, hq⟩ : ∃ x, x = wr.heap.size := ⟨_, rfl⟩
          have bq : Blk w6 q 187 #[.int .i64 k, .int .i64 at_] := by rw [hw6, hq]; exact Blk.new _ _ _
          have hb6 : Bl wr w6 := by rw [hw6]; exact (Bl.refl _).alloc _
          rw [← hw6, ← hq]
          clear hw6 hq c0 c1
          have hbr6 := hbr.trans hb6
          have hbp6 := hbp.bl hb6
          have HBg6 := Lib.hid (HBg.out.bl hb6)
          have k1 := (w21.bl (hb3.trans hbr6)).all5
          have kq := bq.all2
          have k7 := hbp6.all3
          obtain ⟨ad2, e, -, j2, j3, j4, -⟩ := ltr_at (HL.out.bl (hb3.trans hbr6)) hk
          injection e with e
          subst e
          rw [(HR.out.wd k hk).1, ← HW2.out] at j2
          rw [HR.out.hts k hk] at j3
          rw [HR.out.ms k hk, ← HW2.out, ← HLa.out, ← HLc.out] at j4
          have hkl : (k : Int) < (ls.length : Int) := by omega
          refine wp_region_flow [(true, 0), (true, 1), (true, 2), (true, 3), (true, 4), (true, 5), (true, 6), (true, 7), (true, 8), (true, 9), (false, 10)] (fun i => i == 10) (by kernel_rfl) (by kernel_rfl) (by kernel_rfl) (by kernel_rfl) ?_
          iterate 1
            apply Flow.calm2 _ _ rfl rfl
            · intro w' hb' K' hK'
              obtain ⟨hc', hf'⟩ := hb'.rule
              go_simp
              try go_ints
              exact hK'
            · intro K' hK'
              simp only [Act.put, List.setIfInBounds_toArray, List.set_cons_zero, List.set_cons_succ]
              exact hK'
          iterate 1
            apply Flow.calm2 _ _ rfl rfl
            · intro w' hb' K' hK'
              obtain ⟨hc', hf'⟩ := hb'.rule
              go_simp
              try go_ints
              exact hK'
            · intro K' hK'
              simp only [Act.put, List.setIfInBounds_toArray, List.set_cons_zero, List.set_cons_succ]
              exact hK'
          iterate 1
            apply Flow.calm2 _ _ rfl rfl
            · intro w' hb' K' hK'
              obtain ⟨hc', hf'⟩ := hb'.rule
              go_simp
              try go_ints
              exact hK'
            · intro K' hK'
              simp only [Act.put, List.setIfInBounds_toArray, List.set_cons_zero, List.set_cons_succ]
              exact hK'
          iterate 1
            apply Flow.calm2 _ _ rfl rfl
            · intro w' hb' K' hK'
              obtain ⟨hc', hf'⟩ := hb'.rule
              go_simp
              try go_ints
              exact hK'
            · intro K' hK'
              simp only [Act.put, List.setIfInBounds_toArray, List.set_cons_zero, List.set_cons_succ]
              exact hK'
          iterate 1
            apply Flow.calm2 _ _ rfl rfl
            · intro w' hb' K' hK'
              obtain ⟨hc', hf'⟩ := hb'.rule
              go_simp
              try go_ints
              exact hK'
            · intro K' hK'
              simp only [Act.put, List.setIfInBounds_toArray, List.set_cons_zero, List.set_cons_succ]
              exact hK'
          iterate 1
            apply Flow.calm2 _ _ rfl rfl
            · intro w' hb' K' hK'
              obtain ⟨hc', hf'⟩ := hb'.rule
              go_simp
              try go_ints
              exact hK'
            · intro K' hK'
              simp only [Act.put, List.setIfInBounds_toArray, List.set_cons_zero, List.set_cons_succ]
              exact hK'
          iterate 1
            apply Flow.calm2 _ _ rfl rfl
            · intro w' hb' K' hK'
              obtain ⟨hc', hf'⟩ := hb'.rule
              go_simp
              try go_ints
              exact hK'
            · intro K' hK'
              simp only [Act.put, List.setIfInBounds_toArray, List.set_cons_zero, List.set_cons_succ]
              exact hK'
          iterate 1
            apply Flow.calm2 _ _ rfl rfl
            · intro w' hb' K' hK'
              obtain ⟨hc', hf'⟩ := hb'.rule
              go_simp
              try go_ints
              exact hK'
            · intro K' hK'
              simp only [Act.put, List.setIfInBounds_toArray, List.set_cons_zero, List.set_cons_succ]
              exact hK'
          iterate 1
            apply Flow.calm2 _ _ rfl rfl
            · intro w' hb' K' hK'
              obtain ⟨hc', hf'⟩ := hb'.rule
              go_simp
              try go_ints
              exact hK'
            · intro K' hK'
              simp only [Act.put, List.setIfInBounds_toArray, List.set_cons_zero, List.set_cons_succ]
              exact hK'
          iterate 1
            apply Flow.calm2 _ _ rfl rfl
            · intro w' hb' K' hK'
              obtain ⟨hc', hf'⟩ := hb'.rule
              go_simp
              try go_ints
              exact hK'
            · intro K' hK'
              simp only [Act.put, List.setIfInBounds_toArray, List.set_cons_zero, List.set_cons_succ]
              exact hK'
          refine Flow.tail _ rfl ?_
          go_wp2_with fail
          refine (HPut.out _ hbr6.drew HBg6.out.drew).mono ?_
          rintro e wz ⟨rfl, hz1, hz2, -, hz4⟩
          have HZ1 := Lib.hid hz1; have HZ2 := Lib.hid hz2
          have HZ4 := Lib.hid (hz4 p _ _ hpg hbp6.drew)
          clear hz1 hz2 hz4 k1 kq k7 j2 j3 j4
          go_wp2_with fail
          exact ⟨⟨i + 1, hlt, by go_num, HZ2.out, HZ4.out, HZ1.out⟩, by simp [RowKit.intOf] <;> omega⟩
        · obtain rfl : i = pl.length := by omega
          rw [List.take_length] at hbg
          have HBg := Lib.hid hbg
          have k7 := hbp.all3
          have kz := (w22.bl (hb3.trans hbr)).all3
          have hpz : ¬ (p = w.heap.size + 1) := by omega
          clear hbg
          go_wp2_with fail
          refine bodyPost_ret (v := .tuple #[.agg #[.int .i64 W, .int .i64 ht, .slice (some ⟨g, 0, none⟩) (W * ht) (W * ht)], .int .i64 0]) (by simp [results, Tryd.results97, go_sem, kz]) rfl ⟨W, ht, _, _, _, by rw [HSe.out, HZ.out], ?_, ?_⟩
          · rw [HSe.out, HWo.out, HSc.out]
            have h := HBg.out.tabReadsB
            have e : (List.range (W * ht)).map (fun k => setF ls pl (k % W) (k / W)) = grid W ht (setF ls pl) := rfl
            rw [e] at h
            have hn : ∀ ad, some (⟨g, 0, none⟩ : Addr) = some ad → w.heap.size + 2 ≤ ad.block := fun ad h => by injection h with h; subst h; show w.heap.size + 2 ≤ g; omega
            refine Res.page HZ.out (((h.store hn (by simp) _).store hn (by simp) _).store hn (by simp) _) ?_
            intro ad h
            have := hn ad h
            omega
          · exact (((w2b.trans (hb3.trans hbr)).setCell (by simp) _).setCell (by simp) _).setCell (by simp) _

end Go.Proofs.YtjelhdpcaileiaaDoor
