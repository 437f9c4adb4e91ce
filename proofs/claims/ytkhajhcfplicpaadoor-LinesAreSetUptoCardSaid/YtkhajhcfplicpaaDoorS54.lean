/- bedref2.SetOf. -/
import Derived.Test.YtkhajhcfplicpaaDoorS53
import Derived.Test.YtkhajhcfplicpaaDoorS50
import Derived.Test.YtkhajhcfplicpaaDoorS13

namespace Go.Proofs.YtkhajhcfplicpaaDoor
open Go.RowKit Go.Shelf

theorem ltr_at {w : World} {L : Option Addr} {ls : List Ltr} {k : Nat} (h : LtrsAt w L ls) (hk : k < ls.length) : ∃ ad, L = some ad ∧ w.cell? (ad.add (k * 4)) = some (.string ⟨(txtOf ls k).toArray⟩) ∧ w.cell? ⟨(ad.add (k * 4)).block, (ad.add (k * 4)).off + 1, none⟩ = some (.int .i64 (ls[k]'hk).W) ∧
    w.cell? ⟨(ad.add (k * 4)).block, (ad.add (k * 4)).off + 2, none⟩ = some (.int .i64 (ls[k]'hk).H) ∧ w.cell? ⟨(ad.add (k * 4)).block, (ad.add (k * 4)).off + 3, none⟩ = some (.slice (ls[k]'hk).A (ls[k]'hk).m (ls[k]'hk).c) ∧ Reads w 1 (ls[k]'hk).A (ls[k]'hk).m ((bsOf ls k).map .bool) := by
  have hg : ls[k]? = some ls[k] := List.getElem?_eq_getElem hk
  obtain ⟨ad, e, h1, h2, h3, h4⟩ := h.at_ hg
  exact ⟨ad, e, by rw [txtOf_at hg]; exact h1, h2, h3, h4, by rw [bsOf_at hg]; exact (h.2 _ (List.getElem_mem hk)).1⟩
/-- What is said of a page that is set. -/
def SetRes (W ht : Nat) (cells : List Value) (w : World) (e : Ending) (w' : World) : Prop := ∃ R rc, e = .returned (.agg #[.int .i64 W, .int .i64 ht, .slice R (W * ht) rc]) ∧
      Reads w' 1 R (W * ht) cells ∧ (∀ ad, R = some ad → w.heap.size ≤ ad.block) ∧ Bl w w'
set_option maxRecDepth 100000 in
set_option maxHeartbeats 8000000 in
theorem setOf_any (nm : List UInt8) (ht gap sp : Nat) (adl : Addr) (c : Nat) (ls : List Ltr) (t : List UInt8) (l : List (Option Nat)) (W : Nat) (w : World) (hL : LtrsAt w (some adl) ls) (hR : Right ht gap sp ls) (htl : t.length ≤ 1048576) (hl : spelt ls t = some l)
    (hW : W = (goAll ls gap sp (0, false) l).1) (hW4 : W ≤ 4000) :
    Calls Tryd.prog 87 #[.agg #[.string ⟨nm.toArray⟩, .int .i64 ht, .int .i64 gap, .int .i64 sp, .slice (some adl) ls.length c], .string ⟨t.toArray⟩] w (SetRes W ht ((grid W ht (setF ls (putAt ls gap sp (0, false) l))).map .bool) w) := by
  let w2 := ((w).alloc (.cells #[.string ⟨nm.toArray⟩, .int .i64 ht, .int .i64 gap, .int .i64 sp, .slice (some adl) ls.length c] 67)).alloc (.cells #[.int .i64 0, .int .i64 0, .slice none 0 0] 24)
  have w2b : Bl w w2 := ((Bl.refl w).alloc _).alloc _
  have w21 : Blk w2 (w.heap.size) 67 #[.string ⟨nm.toArray⟩, .int .i64 ht, .int .i64 gap, .int .i64 sp, .slice (some adl) ls.length c] := by
    have h0 := Blk.new (w) 67 #[.string ⟨nm.toArray⟩, .int .i64 ht, .int .i64 gap, .int .i64 sp, .slice (some adl) ls.length c]
    exact (h0.alloc _)
  have w22 : Blk w2 (w.heap.size + 1) 24 #[.int .i64 0, .int .i64 0, .slice none 0 0] := by
    have h0 := Blk.new ((w).alloc (.cells #[.string ⟨nm.toArray⟩, .int .i64 ht, .int .i64 gap, .int .i64 sp, .slice (some adl) ls.length c] 67)) 24 #[.int .i64 0, .int .i64 0, .slice none 0 0]
    simp only [World.size_alloc] at h0
    exact h0
  have lw2 : w2.heap.size = w.heap.size + 2 := by simp [w2]
  have HL := Lib.hid (hL.bl w2b); have HR := Lib.hid hR
  have hs := spelledOf_any nm ht gap sp adl c ls t w2 (hL.bl w2b) hR.texts hR.many.2 htl
  have hg := hR.gap1
  have hsp := hR.sp1
  have hht := hR.ht1
  have hN : W * ht ≤ 256000 := by have := Nat.mul_le_mul hW4 hht.2; omega
  have Hs := Lib.hid hs; have Hl := Lib.hid hl; have HWd := Lib.hid hW
  have k1 := w21.all5
  clear hL hR hs hl hW
  go_enter Tryd.func87, Tryd.ntmps87
  go_wp2_with fail
  refine Hs.out.mono ?_
  rintro e w3 ⟨R, m, d, rfl, hres, hb3⟩
  clear_value w2
  obtain ⟨rfl, hll, hrd⟩ := hres l Hl.out
  have HRd := Lib.hid hrd
  have hin := spelt_in Hl.out
  have HIn := Lib.hid hin
  have hle3 := hb3.le
  clear hres hrd hin Hs k1
  go_upto_region 2 with fail
  have k1 := (w21.bl hb3).all5
  go_cut [7] from 14 to 25 (fun s7 wc => ∃ p, s7 = .pointer (some ⟨p, 0, none⟩) ∧ w3.heap.size ≤ p ∧ Blk wc p 24 #[.int .i64 W, .int .i64 ht, .slice none 0 0] ∧ Bl w3 wc)
  case first =>
    have hw := fun wx (hx : Bl w3 wx) => widthOf_any nm ht gap sp adl c ls t l wx (HL.out.bl (hb3.trans hx)) HR.out htl Hl.out
    rw [← HWd.out] at hw
    have Hw := Lib.hid hw
    clear hw
    refine wp_region_fork [(true, 0), (true, 1), (true, 3), (true, 4)] 2 [(true, 5), (false, 6), (false, 7)] 6 [(false, 2), (true, 5), (false, 7)] (fun i => i == 7) (by kernel_rfl) (by kernel_rfl) (by kernel_rfl) (by kernel_rfl) ?_
    iterate 1
      apply Flow.calm2 _ _ rfl rfl
      · intro w' hb' K' hK'
        obtain ⟨hc', hf'⟩ := hb'.rule
        go_simp
        try go_ints
        exact hK'
      · intro K' hK'
        simp only [Act.put, List.setIfInBounds_toArray, List.set_cons_zero, List.set_cons_succ]
        exact hK'
    iterate 1
      apply Flow.mv _ rfl
      · intro K' hK'
        simp only [Act.put, Act.eval, List.setIfInBounds_toArray, List.set_cons_zero, List.set_cons_succ, arr_getD, List.getD_cons_zero, List.getD_cons_succ]
        exact hK'
    iterate 1
      apply Flow.calm2 _ _ rfl rfl
      · intro w' hb' K' hK'
        obtain ⟨hc', hf'⟩ := hb'.rule
        go_simp
        try go_ints
        exact hK'
      · intro K' hK'
        simp only [Act.put, List.setIfInBounds_toArray, List.set_cons_zero, List.set_cons_succ]
        exact hK'
    iterate 1
      apply Flow.calm2 _ _ rfl rfl
      · intro w' hb' K' hK'
        obtain ⟨hc', hf'⟩ := hb'.rule
        go_simp
        try go_ints
        exact hK'
      · intro K' hK'
        simp only [Act.put, List.setIfInBounds_toArray, List.set_cons_zero, List.set_cons_succ]
        exact hK'
    refine Flow.fork ?_
    refine ⟨?_, ?_⟩
    · apply Flow.move rfl
      go_wp2_with fail
      refine (Hw.out _ (Bl.refl _).drew).mono ?_
      rintro e w4 ⟨rfl, HB1⟩
      go_wp2_with fail
      refine ⟨fun _ => (by first | exact HB1 | exact Bl.refl _), ?_⟩
      iterate 1
        apply Flow.calm2 _ _ rfl rfl
        · intro w' hb' K' hK'
          obtain ⟨hc', hf'⟩ := hb'.rule
          go_simp
          try go_ints
          exact hK'
        · intro K' hK'
          simp only [Act.put, List.setIfInBounds_toArray, List.set_cons_zero, List.set_cons_succ]
          exact hK'
      apply Flow.move rfl
      go_wp2_with fail
      refine ⟨fun _ => ?_, ?_⟩
      · repeat' (first | exact Bl.refl _ | refine Bl.drewL ?_ | refine Bl.drew ?_ | refine Bl.alloc ?_ _)
      refine Flow.tail _ rfl ?_
      go_wp2_with fail
      go_meet
      case rel =>
        have hb34 : Bl w3 w4 := Bl.ofDrew HB1
        refine ⟨w4.heap.size, rfl, by have := hb34.le; omega, ?_, ?_⟩
        · exact Blk.new w4 24 #[.int .i64 W, .int .i64 ht, .slice none 0 0]
        · exact hb34.alloc _
    · apply Flow.move rfl
      go_wp2_with fail
      refine ⟨fun _ => ?_, ?_⟩
      · repeat' (first | exact Bl.refl _ | refine Bl.drewL ?_ | refine Bl.drew ?_ | refine Bl.alloc ?_ _)
      apply Flow.move rfl
      go_wp2_with fail
      refine (Hw.out _ ((Bl.refl _).drew.alloc _)).mono ?_
      rintro e w4 ⟨rfl, HB2⟩
      go_wp2_with fail
      refine ⟨fun _ => (by first | exact HB2 | exact Bl.refl _), ?_⟩
      iterate 1
        apply Flow.calm2 _ _ rfl rfl
        · intro w' hb' K' hK'
          obtain ⟨hc', hf'⟩ := hb'.rule
          go_simp
          try go_ints
          exact hK'
        · intro K' hK'
          simp only [Act.put, List.setIfInBounds_toArray, List.set_cons_zero, List.set_cons_succ]
          exact hK'
      refine Flow.tail _ rfl ?_
      have b0 : Blk w4 w3.heap.size 24 #[.int .i64 0, .int .i64 0, .slice none 0 0] := (Blk.new w3.drew 24 #[.int .i64 0, .int .i64 0, .slice none 0 0]).bl HB2
      have k7 := b0.all3
      go_wp2_with fail
      go_meet
      case rel =>
        have hb34 : Bl w3 w4 := ((Bl.refl w3).drew.alloc _).trans HB2
        have hge : w3.heap.size ≤ w3.heap.size := Nat.le_refl _
        refine ⟨w3.heap.size, rfl, by omega, ?_, ?_⟩
        · exact ((b0.set_ 0 _).set_ 1 _).set_ 2 _
        · exact ((hb34.setCell hge _).setCell hge _).setCell hge _
  case rest =>
    obtain ⟨p, rfl, hp, hbp, hb34⟩ := hcut
    rename World => w4
    have hb4 := hb3.trans hb34
    clear k1
    have k7 := hbp.all3
    have hWH : (W : Int) * (ht : Int) = ((W * ht : Nat) : Int) := by simp
    have hmk := run_make_row' (P := Tryd.prog) 22 4 (.bool false) 1 Tryd.underlying22 info_bool rfl .i64 .i64 (W * ht) (by omega) (by omega)
    rw [tabB_made, ← hWH] at hmk
    have HWH := Lib.hid hWH
    have hz : 0 ≤ (W : Int) * (ht : Int) ∧ (W : Int) * (ht : Int) ≤ 256000 := by omega
    clear hWH
    have hpl := hbp.lt
    go_upto_region 4 with fail
    obtain ⟨g, hgq⟩ : ∃ x, x = w4.heap.size := ⟨_, rfl⟩
    obtain ⟨w5, hw5⟩ : ∃ x, x = (w4.setCell ⟨p, 2, none⟩ (.slice (some ⟨g, 0, none⟩) (W * ht) (W * ht))).alloc (.cells (tabB (W * ht) fun _ => false) 4) := ⟨_, rfl⟩
    have hpg : p ≠ g := by omega
    have hle4 := hb34.le
    have hg3 : w3.heap.size ≤ g := by omega
    have bg5 : Blk w5 g 4 (tabB (W * ht) fun k => setF ls (putAt ls gap sp (0, false) (l.take 0)) (k % W) (k / W)) := by
      rw [hw5, hgq]
      have h := Blk.new (w4.setCell ⟨p, 2, none⟩ (.slice (some ⟨w4.heap.size, 0, none⟩) (W * ht) (W * ht))) 4 (tabB (W * ht) fun _ => false)
      rw [World.size_setCell] at h
      exact h
    have bp5 : Blk w5 p 24 #[.int .i64 W, .int .i64 ht, .slice (some ⟨g, 0, none⟩) (W * ht) (W * ht)] := by rw [hw5]; exact (hbp.set_ 2 _).alloc _
    have hb35 : Bl w3 w5 := by rw [hw5]; exact (hb34.setCell (by show w3.heap.size ≤ p; exact hp) _).alloc _
    rw [← hgq, ← hw5]
    have HG := Lib.hid bg5; have HP := Lib.hid bp5; have HB5 := Lib.hid hb35
    clear hgq hw5 k7 hmk hpl hbp hb34 hb4 bg5 bp5 hb35 hle4
    go_wp2_with fail
    go_loopw [35, 8, 9] (fun u v x wr => ∃ i : Nat, i ≤ l.length ∧ u = .int .i64 i ∧ v = .int .i64 (goAll ls gap sp (0, false) (l.take i)).1 ∧ x = .bool (goAll ls gap sp (0, false) (l.take i)).2 ∧ Bl w3 wr ∧ Blk wr p 24 #[.int .i64 W, .int .i64 ht, .slice (some ⟨g, 0, none⟩) (W * ht) (W * ht)] ∧ Blk wr g 4 (tabB (W * ht) fun k => setF ls (putAt ls gap sp (0, false) (l.take i)) (k % W) (k / W))) (fun u _ _ _ => l.length - (RowKit.intOf u).toNat)
    case atStart => exact ⟨0, Nat.zero_le _, rfl, rfl, rfl, HB5.out, HP.out, HG.out⟩
    case round =>
      obtain ⟨i, hi, rfl, rfl, rfl, hbr, hbp, hbg⟩ := hrel
      have k1 := (w21.bl (hb3.trans hbr)).all5
      have hle := goAll_le (by omega) (by omega) HR.out.wd_le (ls := ls) (gap := gap) (sp := sp) (l.take i) (0, false)
      rw [List.length_take] at hle
      by_cases hlt : i < l.length
      · have hgi : l[i]? = some l[i] := List.getElem?_eq_getElem hlt
        obtain ⟨x, hx⟩ : ∃ x, x = l[i] := ⟨_, rfl⟩
        rw [← hx] at hgi
        have hst := goAll_succ (ls := ls) (gap := gap) (sp := sp) (s := (0, false)) hgi
        have htk := goAll_take (ls := ls) (gap := gap) (sp := sp) l (0, false) (i + 1)
        have hpe := putAt_end (ls := ls) (gap := gap) (sp := sp) (l.take i) (0, false)
        rw [← HWd.out] at htk
        obtain ⟨ad, u, rfl, hu, hc⟩ := (HRd.out.bl hbr).at_ hlt
        rw [List.getElem?_map, hgi] at hu
        have hu' : ptrCell adl x = u := Option.some.inj hu
        have hpn := fun (e : x = none) => putAt_succ_none (ls := ls) (gap := gap) (sp := sp) (s := (0, false)) (l := l) (i := i) (by rw [hgi, e])
        have hps := fun k (e : x = some k) => putAt_succ_some (ls := ls) (gap := gap) (sp := sp) (s := (0, false)) (l := l) (i := i) (k := k) (by rw [hgi, e])
        obtain ⟨n, sd, hns⟩ : ∃ n sd, goAll ls gap sp (0, false) (l.take i) = (n, sd) := ⟨_, _, rfl⟩
        obtain ⟨pl, hpl⟩ : ∃ pl, pl = putAt ls gap sp (0, false) (l.take i) := ⟨_, rfl⟩
        rw [hns] at hst hle hpe ⊢
        rw [← hpl] at hpe hbg
        simp only [hns, ← hpl] at hpn hps
        have hle2 : n ≤ 80 * 1048576 := by simp only at hle; omega
        have HSt := Lib.hid hst; have HTk := Lib.hid htk; have HPe := Lib.hid hpe; have HPn := Lib.hid hpn; have HPs := Lib.hid hps
        subst hu'
        clear hu hst hns hle hx htk hpe hpn hps hpl
        cases x with
        | none =>
          have HN := Lib.hid (show goAll ls gap sp (0, false) (l.take (i + 1)) = (n + sp, false) from HSt.out)
          change _ = some (Value.pointer none) at hc
          go_wp2_with fail
          exact ⟨⟨i + 1, hlt, by go_num, by rw [HN.out] <;> simp, by rw [HN.out], hbr, hbp, by rw [HPn.out rfl]; exact hbg⟩, by simp [RowKit.intOf] <;> omega⟩
        | some k =>
          have hk := HIn.out k (List.mem_of_getElem? hgi)
          obtain ⟨ad2, e, -, j2, j3, j4, -⟩ := ltr_at (HL.out.bl (hb3.trans hbr)) hk
          obtain ⟨-, -, -, -, -, -, hbits3⟩ := ltr_at (HL.out.bl hb3) hk
          injection e with e
          subst e
          have hwk := HR.out.wd k hk
          rw [hwk.1] at j2
          rw [HR.out.hts k hk] at j3
          rw [HR.out.ms k hk] at j4 hbits3
          have HN := Lib.hid (show goAll ls gap sp (0, false) (l.take (i + 1)) = (spotOf gap (n, sd) + wdOf ls k, true) from HSt.out)
          have htk := HTk.out
          rw [HN.out] at htk
          have htk2 : spotOf gap (n, sd) + wdOf ls k ≤ W := htk
          change _ = some (Value.pointer (some (adl.add (k * 4)))) at hc
          obtain ⟨wk, hwk3⟩ : ∃ x, x = wdOf ls k := ⟨_, rfl⟩
          obtain ⟨la, hla⟩ : ∃ x, x = (ls[k]'hk).A := ⟨_, rfl⟩
          obtain ⟨lc, hlc⟩ : ∃ x, x = (ls[k]'hk).c := ⟨_, rfl⟩
          rw [← hwk3] at j2 j4 hbits3 htk2
          rw [← hla, ← hlc] at j4
          rw [← hla] at hbits3
          have hwk2 : 1 ≤ wk ∧ wk ≤ 64 := by rw [hwk3]; exact hwk.2
          obtain ⟨at_, hat⟩ : ∃ x, x = spotOf gap (n, sd) := ⟨_, rfl⟩
          rw [← hat] at htk2
          have hpe2 : ∀ p ∈ pl, p.2 + wdOf ls p.1 ≤ at_ := fun q hq => by
            have h1 := HPe.out q hq
            have h2 : n ≤ at_ := by rw [hat]; unfold spotOf; split <;> simp
            exact Nat.le_trans h1 h2
          have hps := HPs.out k rfl
          rw [← hat] at hps
          have HW3 := Lib.hid hwk3; have HLa := Lib.hid hla; have HLc := Lib.hid hlc; have HAt := Lib.hid hat; have HBits := Lib.hid hbits3; have HPe2 := Lib.hid hpe2; have HPs2 := Lib.hid hps
          have hst0 : Blk wr g 4 (tabB (W * ht) (midF ls pl (k, at_) W 0 0)) := by
            have e : tabB (W * ht) (midF ls pl (k, at_) W 0 0) = tabB (W * ht) (fun k => setF ls pl (k % W) (k / W)) := tabB_congr fun j _ => midF_start ls pl (k, at_) W j
            rw [e]
            exact hbg
          have HG0 := Lib.hid hst0; have HBp := Lib.hid hbp; have HBr := Lib.hid hbr; have HC := Lib.hid hc
          have hW1 : 1 ≤ W := by omega
          clear hgi hwk hwk3 hla hlc hat hpe2 hps htk hst0 hbg hbits3 hle2
          go_upto_if 45 with fail
          go_cut [8] from 46 to 49 (fun s8 wc => s8 = .int .i64 at_ ∧ wc = wr)
          case first =>
            cases sd
            · have HV := Lib.hid (show at_ = n from HAt.out)
              go_wp2_with fail
              go_meet
              case rel => exact ⟨by rw [HV.out], rfl⟩
            · have HV := Lib.hid (show at_ = n + gap from HAt.out)
              have hnl : n ≤ 4000 := by have := HV.out; omega
              go_wp2_with fail
              go_meet
              case rel => exact ⟨by rw [HV.out] <;> simp, rfl⟩
          case rest =>
            obtain ⟨rfl, rfl⟩ := hcut
            have k7 := HBp.out.all3
            go_wp2_with fail
            go_loopw [52] (fun u wy => ∃ y : Nat, y ≤ ht ∧ u = .int .i64 y ∧ Bl w3 wy ∧ Blk wy p 24 #[.int .i64 W, .int .i64 ht, .slice (some ⟨g, 0, none⟩) (W * ht) (W * ht)] ∧ Blk wy g 4 (tabB (W * ht) (midF ls pl (k, at_) W y 0))) (fun u _ => ht - (RowKit.intOf u).toNat)
            case atStart => exact ⟨0, Nat.zero_le _, rfl, HBr.out, HBp.out, HG0.out⟩
            case round =>
              rename World => wy
              clear k1 k7 hc j2 j3 j4
              obtain ⟨y, hy, rfl, hby, hbp, hbg⟩ := hrel
              obtain ⟨ad, e, -, j2, j3, j4, -⟩ := ltr_at (HL.out.bl (hb3.trans hby)) hk
              injection e with e
              subst e
              rw [(HR.out.wd k hk).1, ← HW3.out] at j2
              rw [HR.out.hts k hk] at j3
              rw [HR.out.ms k hk, ← HW3.out] at j4
              rw [← HLa.out, ← HLc.out] at j4
              by_cases hyl : y < ht
              · have HG1 := Lib.hid hbg; have HP1 := Lib.hid hbp; have HY1 := Lib.hid hby
                clear hbg
                go_wp2_with fail
                go_loopw [60] (fun u wx => ∃ x : Nat, x ≤ wk ∧ u = .int .i64 x ∧ Bl w3 wx ∧ Blk wx p 24 #[.int .i64 W, .int .i64 ht, .slice (some ⟨g, 0, none⟩) (W * ht) (W * ht)] ∧ Blk wx g 4 (tabB (W * ht) (midF ls pl (k, at_) W y x))) (fun u _ => wk - (RowKit.intOf u).toNat)
                case atStart => exact ⟨0, Nat.zero_le _, rfl, HY1.out, HP1.out, HG1.out⟩
                case round =>
                  rename World => wx
                  clear j2 j3 j4 hby hbp
                  obtain ⟨x, hx, rfl, hbx, hbp, hbg⟩ := hrel
                  have hbits := HBits.out.bl hbx
                  have hst := fun (h1 : at_ + x < W) (h2 : x < wdOf ls k) => midF_step (ls := ls) (pl := pl) (l := k) (at_ := at_) (W := W) (y := y) (i := x) h1 h2 HPe2.out
                  by_cases hxl : x < wk
                  · have hst2 := hst (by omega) (by rw [← HW3.out]; exact hxl)
                    rw [← HW3.out] at hst2
                    have hat := fun wv (hv : Bl wx wv) => at_any wk ht la lc (bsOf ls k) x y wv (hbits.bl hv) (by omega) (by omega)
                    simp only [atI_in (bsOf ls k) wk ht x y hxl hyl] at hat
                    obtain ⟨ad, e, -, j2, j3, j4, -⟩ := ltr_at (HL.out.bl (hb3.trans hbx)) hk
                    injection e with e
                    subst e
                    rw [(HR.out.wd k hk).1, ← HW3.out] at j2
                    rw [HR.out.hts k hk] at j3
                    rw [HR.out.ms k hk, ← HW3.out, ← HLa.out, ← HLc.out] at j4
                    have k7 := hbp.all3
                    obtain ⟨q, hq⟩ : ∃ q : Nat, q = y * W := ⟨_, rfl⟩
                    have hqW : (y : Int) * (W : Int) = (q : Int) := by rw [hq]; simp
                    have hrow : q + W ≤ W * ht := by rw [hq, ← Nat.succ_mul, Nat.mul_comm W ht]; exact Nat.mul_le_mul_right W hyl
                    have hto : ((q : Int) + (at_ : Int) + (x : Int)).toNat = q + at_ + x := by omega
                    have hi1 : (q : Int) + (at_ : Int) + (x : Int) < (W : Int) * (ht : Int) := by
                      have h1 : ((W * ht : Nat) : Int) = (W : Int) * (ht : Int) := by simp
                      rw [← h1]
                      omega
                    have hq3 : q ≤ 256000 := by omega
                    rw [← hq] at hst2
                    obtain ⟨pv, hpv⟩ : ∃ pv, pv = pix (bsOf ls k) wk x y := ⟨_, rfl⟩
                    simp only [← hpv] at hat
                    rw [← hpv] at hst2
                    have hcell : wx.cell? ⟨g, q + at_ + x, none⟩ = some (.bool (midF ls pl (k, at_) W y x (q + at_ + x))) := hbg.tabAtB (by omega)
                    have hfz := hbg.frozen
                    have hgl := hbg.lt
                    have Hat := Lib.hid hat; have HSt2 := Lib.hid hst2; have HBg := Lib.hid hbg; have HBp := Lib.hid hbp; have HBx := Lib.hid hbx
                    have hc := HC.out
                    clear hat hst hst2 hq hpv hbits
                    go_upto_region 18 with fail
                    refine wp_region_flow [(true, 0), (true, 1), (true, 2), (true, 3), (true, 4), (true, 5), (true, 6), (true, 7), (true, 8), (true, 9), (true, 10), (true, 11), (true, 12), (true, 13), (true, 14), (true, 15), (false, 16), (true, 17), (false, 18)] (fun i => i == 18) (by kernel_rfl) (by kernel_rfl) (by kernel_rfl) (by kernel_rfl) ?_
                    iterate 1
                      apply Flow.calm2 _ _ rfl rfl
                      · intro w' hb' K' hK'
                        obtain ⟨hc', hf'⟩ := hb'.rule
                        go_simp
                        try go_ints
                        exact hK'
                      · intro K' hK'
                        simp only [Act.put, List.setIfInBounds_toArray, List.set_cons_zero, List.set_cons_succ]
                        exact hK'
                    iterate 1
                      apply Flow.calm2 _ _ rfl rfl
                      · intro w' hb' K' hK'
                        obtain ⟨hc', hf'⟩ := hb'.rule
                        go_simp
                        try go_ints
                        exact hK'
                      · intro K' hK'
                        simp only [Act.put, List.setIfInBounds_toArray, List.set_cons_zero, List.set_cons_succ]
                        exact hK'
                    iterate 1
                      apply Flow.mv _ rfl
                      · intro K' hK'
                        simp only [Act.put, Act.eval, List.setIfInBounds_toArray, List.set_cons_zero, List.set_cons_succ, arr_getD, List.getD_cons_zero, List.getD_cons_succ]
                        exact hK'
                    iterate 1
                      apply Flow.calm2 _ _ rfl rfl
                      · intro w' hb' K' hK'
                        obtain ⟨hc', hf'⟩ := hb'.rule
                        go_simp
                        try go_ints
                        exact hK'
                      · intro K' hK'
                        simp only [Act.put, List.setIfInBounds_toArray, List.set_cons_zero, List.set_cons_succ]
                        exact hK'
                    iterate 1
                      apply Flow.calm2 _ _ rfl rfl
                      · intro w' hb' K' hK'
                        obtain ⟨hc', hf'⟩ := hb'.rule
                        go_simp
                        try go_ints
                        exact hK'
                      · intro K' hK'
                        simp only [Act.put, List.setIfInBounds_toArray, List.set_cons_zero, List.set_cons_succ]
                        exact hK'
                    iterate 1
                      apply Flow.calm2 _ _ rfl rfl
                      · intro w' hb' K' hK'
                        obtain ⟨hc', hf'⟩ := hb'.rule
                        go_simp
                        try go_ints
                        exact hK'
                      · intro K' hK'
                        simp only [Act.put, List.setIfInBounds_toArray, List.set_cons_zero, List.set_cons_succ]
                        exact hK'
                    iterate 1
                      apply Flow.mv _ rfl
                      · intro K' hK'
                        simp only [Act.put, Act.eval, List.setIfInBounds_toArray, List.set_cons_zero, List.set_cons_succ, arr_getD, List.getD_cons_zero, List.getD_cons_succ]
                        exact hK'
                    iterate 1
                      apply Flow.calm2 _ _ rfl rfl
                      · intro w' hb' K' hK'
                        obtain ⟨hc', hf'⟩ := hb'.rule
                        go_simp
                        try go_ints
                        exact hK'
                      · intro K' hK'
                        simp only [Act.put, List.setIfInBounds_toArray, List.set_cons_zero, List.set_cons_succ]
                        exact hK'
                    iterate 1
                      apply Flow.mv _ rfl
                      · intro K' hK'
                        simp only [Act.put, Act.eval, List.setIfInBounds_toArray, List.set_cons_zero, List.set_cons_succ, arr_getD, List.getD_cons_zero, List.getD_cons_succ]
                        exact hK'
                    iterate 1
                      apply Flow.calm2 _ _ rfl rfl
                      · intro w' hb' K' hK'
                        obtain ⟨hc', hf'⟩ := hb'.rule
                        go_simp
                        try go_ints
                        exact hK'
                      · intro K' hK'
                        simp only [Act.put, List.setIfInBounds_toArray, List.set_cons_zero, List.set_cons_succ]
                        exact hK'
                    iterate 1
                      apply Flow.mv _ rfl
                      · intro K' hK'
                        simp only [Act.put, Act.eval, List.setIfInBounds_toArray, List.set_cons_zero, List.set_cons_succ, arr_getD, List.getD_cons_zero, List.getD_cons_succ]
                        exact hK'
                    iterate 1
                      apply Flow.calm2 _ _ rfl rfl
                      · intro w' hb' K' hK'
                        obtain ⟨hc', hf'⟩ := hb'.rule
                        go_simp
                        try go_ints
                        exact hK'
                      · intro K' hK'
                        simp only [Act.put, List.setIfInBounds_toArray, List.set_cons_zero, List.set_cons_succ]
                        exact hK'
                    iterate 1
                      apply Flow.calm2 _ _ rfl rfl
                      · intro w' hb' K' hK'
                        obtain ⟨hc', hf'⟩ := hb'.rule
                        go_simp
                        try go_ints
                        exact hK'
                      · intro K' hK'
                        simp only [Act.put, List.setIfInBounds_toArray, List.set_cons_zero, List.set_cons_succ]
                        exact hK'
                    iterate 1
                      apply Flow.calm2 _ _ rfl rfl
                      · intro w' hb' K' hK'
                        obtain ⟨hc', hf'⟩ := hb'.rule
                        go_simp
                        try go_ints
                        exact hK'
                      · intro K' hK'
                        simp only [Act.put, List.setIfInBounds_toArray, List.set_cons_zero, List.set_cons_succ]
                        exact hK'
                    iterate 2
                      apply Flow.mv _ rfl
                      · intro K' hK'
                        simp only [Act.put, Act.eval, List.setIfInBounds_toArray, List.set_cons_zero, List.set_cons_succ, arr_getD, List.getD_cons_zero, List.getD_cons_succ]
                        exact hK'
                    apply Flow.move rfl
                    go_wp2_with fail
                    refine (Hat.out _ (Bl.refl _).drew).mono ?_
                    rintro e wz ⟨rfl, HB1⟩
                    have hbz : Bl wx wz := Bl.ofDrew HB1
                    have hcz := hbz.at hcell
                    have hfz2 := (HBg.out.bl hbz).frozen
                    go_wp2_with fail
                    refine ⟨fun _ => (by first | exact HB1 | exact Bl.refl _), ?_⟩
                    iterate 1
                      apply Flow.calm2 _ _ rfl rfl
                      · intro w' hb' K' hK'
                        obtain ⟨hc', hf'⟩ := hb'.rule
                        go_simp
                        try go_ints
                        exact hK'
                      · intro K' hK'
                        simp only [Act.put, List.setIfInBounds_toArray, List.set_cons_zero, List.set_cons_succ]
                        exact hK'
                    refine Flow.tail _ rfl ?_
                    have hg3' : w3.heap.size ≤ (⟨g, q + at_ + x, none⟩ : Addr).block := hg3
                    go_wp2_with fail
                    exact ⟨⟨x + 1, hxl, by go_num, (HBx.out.trans hbz).setCell hg3' _, (HBp.out.bl hbz).far (by show p ≠ g; exact hpg) _, (HBg.out.bl hbz).tabSetB _ _ (fun j _ => HSt2.out j)⟩, by simp [RowKit.intOf] <;> omega⟩
                  · obtain rfl : x = wk := by omega
                    have hrw : tabB (W * ht) (midF ls pl (k, at_) W y x) = tabB (W * ht) (midF ls pl (k, at_) W (y + 1) 0) := tabB_congr fun j _ => by rw [midF_row, HW3.out]
                    rw [hrw] at hbg
                    have HBg := Lib.hid hbg
                    clear hbg hrw hst
                    go_wp2_with fail
                    exact ⟨⟨y + 1, hyl, by go_num, hbx, hbp, HBg.out⟩, by simp [RowKit.intOf] <;> omega⟩
              · obtain rfl : y = ht := by omega
                have hend : tabB (W * y) (midF ls pl (k, at_) W y 0) = tabB (W * y) (fun j => setF ls (putAt ls gap sp (0, false) (l.take (i + 1))) (j % W) (j / W)) := tabB_congr fun j hj => by
                  rw [midF_end (Nat.div_lt_of_lt_mul hj), HPs2.out]
                rw [hend] at hbg
                have HBg := Lib.hid hbg
                clear hbg hend
                go_wp2_with fail
                exact ⟨⟨i + 1, hlt, by go_num, by rw [HN.out, ← HW3.out, ← HAt.out]; simp, by rw [HN.out], hby, hbp, HBg.out⟩, by simp [RowKit.intOf] <;> omega⟩
      · obtain rfl : i = l.length := by omega
        rw [List.take_length] at hbg
        have HBg := Lib.hid hbg
        have k7 := hbp.all3
        have kz := (w22.bl (hb3.trans hbr)).all3
        have hpz : ¬ (p = w.heap.size + 1) := by omega
        clear hbg
        go_wp2_with fail
        refine bodyPost_ret (v := .agg #[.int .i64 W, .int .i64 ht, .slice (some ⟨g, 0, none⟩) (W * ht) (W * ht)]) (by simp [results, Tryd.results87, go_sem, kz]) rfl ⟨_, _, rfl, ?_, ?_, ?_⟩
        · have h := HBg.out.tabReadsB
          have e : (List.range (W * ht)).map (fun k => setF ls (putAt ls gap sp (0, false) l) (k % W) (k / W)) = grid W ht (setF ls (putAt ls gap sp (0, false) l)) := rfl
          rw [e] at h
          have hn : ∀ ad, some (⟨g, 0, none⟩ : Addr) = some ad → w.heap.size + 2 ≤ ad.block := fun ad h => by injection h with h; subst h; show w.heap.size + 2 ≤ g; omega
          exact ((h.store hn (by simp) _).store hn (by simp) _).store hn (by simp) _
        · intro ad h
          injection h with h
          subst h
          show w.heap.size ≤ g
          omega
        · exact (((w2b.trans (hb3.trans hbr)).setCell (by simp) _).setCell (by simp) _).setCell (by simp) _

end Go.Proofs.YtkhajhcfplicpaaDoor
