/- forms.checkValue. -/
import Derived.Test.YtahfkahfaiidgaaGreatDoorMClaimFormRules22
import Derived.Test.YtahfkahfaiidgaaGreatDoorMClaimFormRules18
import Derived.Test.YtahfkahfaiidgaaGreatDoorMClaimFormRules17
import Derived.Test.YtahfkahfaiidgaaGreatDoorMClaimFormRules1
import Derived.Test.YtahfkahfaiidgaaGreatDoorMClaimFormRules20

namespace Go.Proofs.YtahfkahfaiidgaaGreatDoor
open Go.RowKit Go.Shelf

theorem info_bx : (Tryz.prog.info? 79).map (fun i => (i.zero, i.size, i.bytes)) = some (some (.agg #[.int .i64 0, .int .i64 0, .int .i64 0, .int .i64 0]), 4, 32) := by kernel_rfl
theorem bx_one (l : List Bx) : ∀ u ∈ bxCells l, u.oneCell' = true := by
  intro u hu
  unfold bxCells at hu
  obtain ⟨b, _, h⟩ := List.mem_flatMap.1 hu
  unfold Bx.cells at h
  simp only [List.mem_cons, List.not_mem_nil, or_false] at h
  rcases h with rfl | rfl | rfl | rfl <;> rfl
theorem bxCells_append (a b : List Bx) : bxCells (a ++ b) = bxCells a ++ bxCells b := List.flatMap_append
/-- A row and a map lie apart. -/
theorem map_apart {w : World} {b base : Nat} {e : TypeId} {size n : Nat} {v : Value} {xs : List Value} {ks : List (List UInt8)} (hm : MapAt w b ks) (h : w.ownsRow base e size v n xs) : some b ≠ v.ownBlock := by
  obtain ⟨es, c, h1, -, -⟩ := hm
  rcases h.2 with ⟨rfl, -⟩ | ⟨g, cap, cur, rfl, -, hg, -⟩
  · intro h; cases h
  · intro hx
    have hx : b = g := Option.some.inj hx
    subst hx
    rw [h1] at hg
    cases hg
theorem MapAt.grown {w w' : World} {b : Nat} {ks : List (List UInt8)} {row : Option Nat} (h : MapAt w b ks) (hb : w.grownBy w' row) (hne : some b ≠ row) : MapAt w' b ks := by
  obtain ⟨es, c, h1, h2, h3⟩ := h
  exact ⟨es, c, (hb.block b (Array.getElem?_eq_some_iff.1 h1).1 hne).trans h1, h2, h3⟩
set_option maxRecDepth 100000 in
/-- The update, and that all else lies as it did. -/
theorem MapAt.update2 {w : World} {b : Nat} {ks : List (List UInt8)} (h : MapAt w b ks) (s : List UInt8) : ∃ w', (Instr.mapUpdate 69 (.map (some b)) (.string ⟨s.toArray⟩) (.bool true)).run Tryz.prog w = .ok () w' ∧ MapAt w' b (ks ++ [s]) ∧ (∀ w0, Bl w0 w → w0.heap.size ≤ b → Bl w0 w') ∧ ∀ k, k ≠ b → w'.heap[k]? = w.heap[k]? := by
  obtain ⟨es, c, h1, h2, h3⟩ := h
  have hk : MapKept.IsKey .string (.string ⟨s.toArray⟩) := trivial
  have hks : ∀ x ∈ es.toList, MapKept.IsKey .string x.key := fun x hx => by obtain ⟨t, _, e, _⟩ := h2 x hx; rw [e]; trivial
  obtain ⟨w', hr, hM, hB⟩ := MapAt.update ⟨es, c, h1, h2, h3⟩ s
  refine ⟨w', hr, hM, hB, fun k hkb => ?_⟩
  rcases MapKept.findNow_spec hk es.toList 0 hks with ⟨hf, hno⟩ | ⟨j, e, hf, hj, he⟩
  · have e2 : (Instr.mapUpdate 69 (.map (some b)) (.string ⟨s.toArray⟩) (.bool true)).run Tryz.prog w = .ok () { w with heap := w.heap.setIfInBounds b (.map (es.push ⟨.string ⟨s.toArray⟩, .bool true, c⟩) (c + 1)) } := by
      simp [Instr.mapUpdate, run_underlying Tryz.underlying69, MapKept.run_getObj_map h1, MapKept.run_checkKey Tryz.underlying9 hk, MapKept.run_findKey Tryz.underlying9 hf, MapKept.run_setObj_map _ h1, Result.andThen]
    obtain ⟨-, e3⟩ := Result.ok.inj (hr.symm.trans e2)
    rw [e3]
    exact Array.getElem?_setIfInBounds_ne (by omega)
  · have hj' : es[j]? = some e := by simpa using hj
    have e2 : (Instr.mapUpdate 69 (.map (some b)) (.string ⟨s.toArray⟩) (.bool true)).run Tryz.prog w = .ok () { w with heap := w.heap.setIfInBounds b (.map (es.modify j (fun e' => { e' with key := .string ⟨s.toArray⟩, val := .bool true })) c) } := by
      simp [Instr.mapUpdate, run_underlying Tryz.underlying69, MapKept.run_getObj_map h1, MapKept.run_checkKey Tryz.underlying9 hk, MapKept.run_findKey Tryz.underlying9 hf, hj', he, MapKept.run_keyThatStays hk, MapKept.run_setObj_map _ h1, Result.andThen]
    obtain ⟨-, e3⟩ := Result.ok.inj (hr.symm.trans e2)
    rw [e3]
    exact Array.getElem?_setIfInBounds_ne (by omega)
/-- A row that lies apart from the block that was changed. -/
theorem own_other {w w' : World} {base b : Nat} {e : TypeId} {size n : Nat} {v : Value} {xs : List Value} (h : w.ownsRow base e size v n xs) (hk : ∀ k, k ≠ b → w'.heap[k]? = w.heap[k]?) (hne : some b ≠ v.ownBlock) : w'.ownsRow base e size v n xs := by
  refine ⟨h.1, ?_⟩
  rcases h.2 with h2 | ⟨g, cap, cur, rfl, hg, hh, r⟩
  · exact .inl h2
  · refine .inr ⟨g, cap, cur, rfl, hg, (hk g ?_).trans hh, r⟩
    intro hx
    exact hne (by rw [hx]; rfl)
theorem any_over (a : Bx) (l : List Bx) : decide (∃ b ∈ l, a.over b = true) = l.any fun b => a.over b := by
  rw [Bool.eq_iff_iff, decide_eq_true_eq, List.any_eq_true]
theorem BxsAt.take {w : World} {L : Option Addr} {l : List Bx} (h : BxsAt w L l) (i : Nat) (hi : i ≤ l.length) : BxsAt w L (l.take i) := by
  have e : (l.take i).flatMap Bx.cells = (l.flatMap Bx.cells).take (i * 4) := by
    conv => rhs; rw [← List.take_append_drop i l, List.flatMap_append]
    rw [List.take_left' (by rw [flat_len Bx.cells 4 (fun _ => rfl), List.length_take]; omega)]
  unfold BxsAt
  rw [e]
  refine ⟨by rw [List.length_take, flat_len Bx.cells 4 (fun _ => rfl), List.length_take]; omega, fun hp => ?_⟩
  obtain ⟨ad, e1, hc⟩ := h.2 (by rw [List.length_take] at hp; omega)
  refine ⟨ad, e1, fun j u hj => hc j u ?_⟩
  rw [List.getElem?_take] at hj
  split at hj
  · exact hj
  · cases hj
end Go.Proofs.YtahfkahfaiidgaaGreatDoor


/-! forms.checkValue. -/
namespace Go.Proofs.YtahfkahfaiidgaaGreatDoor
open Go.RowKit Go.Shelf

/-- What checkValue leaves: all that lay in w0, and every block but the map's. -/
def VPost (w0 w : World) (gm : Nat) (ks : List (List UInt8)) (nm : List UInt8) (e : Int) (w' : World) : Prop :=
  (e = 0 → MapAt w' gm (ks ++ [nm])) ∧ Bl w0 w' ∧ ∀ k, k < w.heap.size → k ≠ gm → w'.heap[k]? = w.heap[k]?
theorem bl_block {w w' : World} (h : Bl w w') : ∀ k, k < w.heap.size → w'.heap[k]? = w.heap[k]? := fun k hk => Below.block h k hk
set_option maxRecDepth 100000 in
set_option maxHeartbeats 8000000 in
theorem checkValue_any (w0 : World) (f : Frm) (v : Vlu) (gm : Nat) (ks : List (List UInt8)) (w : World) (hb0 : Bl w0 w) (hg : w0.heap.size ≤ gm) (hF : FrmAt w0 f) (hV : Reads w0 1 v.M v.marks.length (v.marks.map (.int .i64))) (hvl : v.marks.length ≤ 9223372036854775807) (hM : MapAt w gm ks) :
    Calls Tryz.prog 27 #[f.val, v.val, .map (some gm), .bool true] w fun e w' => e = .returned (.int .i64 (vluErr f.lf (decide (v.field ∈ ks)) v)) ∧ VPost w0 w gm ks v.field (vluErr f.lf (decide (v.field ∈ ks)) v) w' := by
  obtain ⟨nm, fW, fH, reach, dark, AL, ac, la, FL, fc, lf, RL, rc, lr⟩ := f
  obtain ⟨VE, hVE⟩ : ∃ y, y = vluErr lf (decide (v.field ∈ ks)) v := ⟨_, rfl⟩
  show Calls _ _ _ w fun e w' => e = .returned (.int .i64 (vluErr lf (decide (v.field ∈ ks)) v)) ∧ VPost w0 w gm ks v.field (vluErr lf (decide (v.field ∈ ks)) v) w'
  rw [← hVE]
  have HVE := Lib.hid hVE
  let w1 := ((w).alloc (.cells #[.string ⟨nm.toArray⟩, .int .i64 fW, .int .i64 fH, .int .i64 reach, .int .i64 dark, .slice AL la.length ac, .slice FL lf.length fc, .slice RL lr.length rc] 26)).alloc (.cells #[.string ⟨v.field.toArray⟩, .string ⟨v.text.toArray⟩, .slice v.M v.marks.length v.mc, .int .i64 v.sure] 73)
  have w1b : Bl w w1 := ((Bl.refl w).alloc _).alloc _
  have w11 : Blk w1 (w.heap.size) 26 #[.string ⟨nm.toArray⟩, .int .i64 fW, .int .i64 fH, .int .i64 reach, .int .i64 dark, .slice AL la.length ac, .slice FL lf.length fc, .slice RL lr.length rc] := by
    have h0 := Blk.new (w) 26 #[.string ⟨nm.toArray⟩, .int .i64 fW, .int .i64 fH, .int .i64 reach, .int .i64 dark, .slice AL la.length ac, .slice FL lf.length fc, .slice RL lr.length rc]
    exact (h0.alloc _)
  have w12 : Blk w1 (w.heap.size + 1) 73 #[.string ⟨v.field.toArray⟩, .string ⟨v.text.toArray⟩, .slice v.M v.marks.length v.mc, .int .i64 v.sure] := by
    have h0 := Blk.new ((w).alloc (.cells #[.string ⟨nm.toArray⟩, .int .i64 fW, .int .i64 fH, .int .i64 reach, .int .i64 dark, .slice AL la.length ac, .slice FL lf.length fc, .slice RL lr.length rc] 26)) 73 #[.string ⟨v.field.toArray⟩, .string ⟨v.text.toArray⟩, .slice v.M v.marks.length v.mc, .int .i64 v.sure]
    simp only [World.size_alloc] at h0
    exact h0
  have hfa := fun (n : List UInt8) wx (hF : FrmAt wx ⟨nm, fW, fH, reach, dark, AL, ac, la, FL, fc, lf, RL, rc, lr⟩) => fieldAt_any _ n wx hF
  unfold Frm.val at hfa
  have hgw : gm < w.heap.size := by obtain ⟨es, c, h1, -, -⟩ := hM; exact (Array.getElem?_eq_some_iff.1 h1).1
  have HF := Lib.hid hF; have HV := Lib.hid hV; have Hfa := Lib.hid hfa; have HM1 := Lib.hid (hM.bl w1b); have Hb01 := Lib.hid (hb0.trans w1b); have Hg := Lib.hid hg
  have k1 := w11.all8
  have k2 := w12.all4
  have hln : lf.length ≤ 9223372036854775807 := hF.fn.2
  have HW1b := Lib.hid w1b; have W12 := Lib.hid w12; have W11 := Lib.hid w11
  have hle1 := w1b.le
  unfold Frm.val Vlu.val
  clear hF hV hVE hfa w1b hM hb0 hg w11 w12
  go_enter Tryz.func27, Tryz.ntmps27
  go_wp2_with fail
  refine (Hfa.out v.field _ (HF.out.bl Hb01.out)).mono ?_
  rintro e w2 ⟨ix, rfl, hix, hb2⟩
  have Hb02 := Lib.hid (Hb01.out.trans hb2)
  have HM2 := Lib.hid (HM1.out.bl hb2)
  have k1 := (W11.out.bl hb2).all8
  have k2 := (W12.out.bl hb2).all4
  have hle2 := hb2.le
  have hlk := HM2.out.lookup v.field
  obtain ⟨tw, htw⟩ : ∃ b, b = decide (v.field ∈ ks) := ⟨_, rfl⟩
  rw [← htw] at hlk HVE
  have HK2 := Lib.hid (show ∀ k, k < w.heap.size → w2.heap[k]? = w.heap[k]? from fun k hk => (bl_block hb2 k (by omega)).trans (bl_block HW1b.out k hk))
  rcases firstG_fld hix with ⟨h0, hk⟩ | ⟨j, x, rfl, hl, hk⟩
  · have HX := Lib.hid (show VE = 10 by rw [HVE.out]; unfold vluErr; rw [hk])
    clear hix hk hb2 hlk htw
    go_wp2_with fail
    go_ret
    exact ⟨by rw [HX.out]; rfl, fun h => absurd (HX.out.symm.trans h) (by decide), Hb02.out, fun k hk _ => HK2.out k hk⟩
  have HVE1 := Lib.hid (show VE = firstNZ [whenI tw 6, whenI (wrongAll x v) 2, rangeE x v.marks] by rw [HVE.out]; unfold vluErr; rw [hk])
  have HL := Lib.hid hl
  have hjl := (List.getElem?_eq_some_iff.1 hl).1
  have B22 := Lib.hid (W12.out.bl hb2); have B21 := Lib.hid (W11.out.bl hb2)
  clear hix hk hl hb2 htw
  cases tw with
  | true =>
    have HX := Lib.hid (show VE = 6 by rw [HVE1.out]; rfl)
    go_wp2_with fail
    go_ret
    exact ⟨by rw [HX.out]; rfl, fun h => absurd (HX.out.symm.trans h) (by decide), Hb02.out, fun k hk _ => HK2.out k hk⟩
  | false =>
  have HVE2 := Lib.hid (show VE = firstNZ [whenI (wrongAll x v) 2, rangeE x v.marks] by rw [HVE1.out, whenI_false, firstNZ_0])
  obtain ⟨w4, hup, hM4, hB4, hK4⟩ := HM2.out.update2 v.field
  have hb04 : Bl w0 w4 := hB4 w0 Hb02.out Hg.out
  have b41 : Blk w4 w.heap.size 26 #[.string ⟨nm.toArray⟩, .int .i64 fW, .int .i64 fH, .int .i64 reach, .int .i64 dark, .slice AL la.length ac, .slice FL lf.length fc, .slice RL lr.length rc] := (hK4 _ (by omega)).trans B21.out
  have b42 : Blk w4 (w.heap.size + 1) 73 #[.string ⟨v.field.toArray⟩, .string ⟨v.text.toArray⟩, .slice v.M v.marks.length v.mc, .int .i64 v.sure] := (hK4 _ (by omega)).trans B22.out
  obtain ⟨ad, e1, j1, j2, j3, j4, j5, j6, j7, j8, j9⟩ := FldsAt.at_ (HF.out.flds.bl hb04) HL.out
  simp only at e1
  subst e1
  have HM4 := Lib.hid hM4; have Hb04 := Lib.hid hb04; have B41 := Lib.hid b41; have B42 := Lib.hid b42
  have HK4 := Lib.hid (show ∀ k, k < w.heap.size → k ≠ gm → w4.heap[k]? = w.heap[k]? from fun k hk hn => (hK4 k hn).trans (HK2.out k hk))
  have hs4 : w.heap.size + 2 ≤ w4.heap.size := by have := b42.lt; omega
  have k3 := b41.all8
  have k4 := b42.all4
  clear hM4 hB4 hK4 hb04 b41 b42
  go_upto_region 8 with fail
  obtain ⟨w5, hw5⟩ : ∃ y, y = w4.alloc (.cells #[.string ⟨x.name.toArray⟩, .int .i64 x.kind, .int .i64 x.box.X, .int .i64 x.box.Y, .int .i64 x.box.W, .int .i64 x.box.H, .slice x.M x.marks.length x.mc, .int .i64 x.most, .bool x.needed] 82) := ⟨_, rfl⟩
  have b5 : Blk w5 w4.heap.size 82 #[.string ⟨x.name.toArray⟩, .int .i64 x.kind, .int .i64 x.box.X, .int .i64 x.box.Y, .int .i64 x.box.W, .int .i64 x.box.H, .slice x.M x.marks.length x.mc, .int .i64 x.most, .bool x.needed] := by rw [hw5]; exact Blk.new _ _ _
  have hb5 : Bl w4 w5 := by rw [hw5]; exact (Bl.refl _).alloc _
  rw [← hw5]
  obtain ⟨w6, hw6⟩ : ∃ y, y = w5 := ⟨_, rfl⟩
  rw [← hw6] at b5 hb5 ⊢
  have B6 := Lib.hid b5; have B2 := Lib.hid (B42.out.bl hb5); have Hb06 := Lib.hid (Hb04.out.trans hb5)
  have HPost := Lib.hid (show ∀ wx, Bl w6 wx → VPost w0 w gm ks v.field VE wx from fun wx hx => ⟨fun _ => HM4.out.bl (hb5.trans hx), (Hb04.out.trans hb5).trans hx, fun k hk hn => (bl_block (hb5.trans hx) k (by omega)).trans (HK4.out k hk hn)⟩)
  have k1 := (B41.out.bl hb5).all8
  have k2 := B2.out.all4
  have k3 := b5.all9
  obtain ⟨mk, hmk⟩ : ∃ b, b = marksB x.kind := ⟨_, rfl⟩
  obtain ⟨te, hte⟩ : ∃ b, b = v.text.isEmpty := ⟨_, rfl⟩
  have Hmk := Lib.hid hmk.symm; have Hte := Lib.hid hte.symm
  have hte2 := hte.symm
  have hhm := fun wx => hasMarks_any x.kind wx
  rw [← hmk] at hhm
  have Hhm := Lib.hid hhm
  clear hw5 hw6 b5 hb5 j1 j2 j3 j4 j5 j6 j7 j8 j9 hup hlk hhm hmk hte k4
  go_upto_region 9 with (go_at_call 60; refine (Hhm.out _).mono ?_; rintro e w' ⟨rfl, rfl⟩)
  go_cut [36] from 37 to 44 (fun s wc => s = .bool false ∧ w6 = wc)
  case first =>
    by_cases c0 : v.sure = 0
    · have q0 : (v.sure != 0) = false := by simp [c0]
      clear c0
      go_wp2_with fail
      go_meet
      case rel => exact ⟨rfl, rfl⟩
    · have q0 : (v.sure != 0) = true := by simp [c0]
      clear c0
      go_wp2_with fail
      go_meet
      case rel => exact ⟨rfl, rfl⟩
  case rest =>
  rename World => wz
  obtain ⟨rfl, rfl⟩ := hcut
  cases mk with
  | true =>
    cases te with
    | false =>
      have HX := Lib.hid (show VE = 2 by
        rw [HVE2.out, show wrongAll x v = true from by
          unfold wrongAll
          exact wrongTo_mono (j := 0) (show wrongV x v = true by unfold wrongV; rw [Hmk.out, Hte.out]; simp [*]) _ (Nat.zero_le _)]; rfl)
      go_wp2_with fail
      go_ret
      exact ⟨by rw [HX.out]; rfl, HPost.out _ (Bl.refl _)⟩
    | true =>
      by_cases c3 : x.kind = 3
      · have q3 : (x.kind == 3) = true := by simpa using c3
        by_cases cl : 1 < v.marks.length
        · have cli : 1 < (v.marks.length : Int) := by omega
          have HX := Lib.hid (show VE = 2 by
            rw [HVE2.out, show wrongAll x v = true from by
              unfold wrongAll
              exact wrongTo_mono (j := 0) (show wrongV x v = true by unfold wrongV; rw [Hmk.out, Hte.out]; simp [*]) _ (Nat.zero_le _)]; rfl)
          go_wp2_with fail
          go_ret
          exact ⟨by rw [HX.out]; rfl, HPost.out _ (Bl.refl _)⟩
        · have cli : ¬ 1 < (v.marks.length : Int) := by omega
          have Hw0 := Lib.hid (show wrongV x v = false by unfold wrongV; rw [Hmk.out, Hte.out]; simp [*])
          go_upto_region 14 with fail
          go_wp2_with fail
          go_loopw [12] (fun u wr => ∃ j : Nat, 1 ≤ j ∧ j ≤ max 1 v.marks.length ∧ u = .int .i64 j ∧ Bl w6 wr ∧ wrongTo false v.marks j = false) (fun u _ => v.marks.length - (RowKit.intOf u).toNat)
          case atStart => exact ⟨1, Nat.le_refl _, Nat.le_max_left _ _, rfl, Bl.refl _, wrongTo_one _ _⟩
          case round =>
            clear k1 k2 k3
            rename World => wr
            obtain ⟨j, hj1, hj2, rfl, hbr, hno⟩ := hrel
            have k2 := (B2.out.bl hbr).all4
            by_cases hlt : j < v.marks.length
            · exact absurd hlt (by omega)
            · have Hnw := Lib.hid (show wrongAll x v = false by unfold wrongAll; rw [Hw0.out, show max 1 v.marks.length = j by omega]; exact hno)
              have Hbr := Lib.hid hbr
              have HVE3 := Lib.hid (show VE = rangeE x v.marks by rw [HVE2.out, Hnw.out, whenI_false, firstNZ_pair]; simp)
              have k3 := (B6.out.bl hbr).all9
              clear hbr hno hj2
              go_wp2_with fail
              go_loopw [89] (fun u wy => ∃ i : Nat, i ≤ v.marks.length ∧ u = .int .i64 i ∧ Bl w6 wy ∧ ∀ (j : Nat) m, j < i → v.marks[j]? = some m → inB m 0 ((x.marks.length : Int) - 1) = true) (fun u _ => v.marks.length - (RowKit.intOf u).toNat)
              case atStart => exact ⟨0, Nat.zero_le _, rfl, Hbr.out, fun j m hj => absurd hj (Nat.not_lt_zero _)⟩
              case round =>
                clear k2 k3
                rename World => wy
                obtain ⟨i, hi, rfl, hby, hall⟩ := hrel
                have k2 := (B2.out.bl hby).all4
                have k3 := (B6.out.bl hby).all9
                by_cases hli : i < v.marks.length
                · have hg : v.marks[i]? = some v.marks[i] := List.getElem?_eq_getElem hli
                  obtain ⟨m, hm⟩ : ∃ z, z = v.marks[i] := ⟨_, rfl⟩
                  rw [← hm] at hg
                  obtain ⟨ad, u1, eA, hu, hc1⟩ := (HV.out.bl (Hb06.out.trans hby)).at_ hli
                  have hu1 : u1 = .int .i64 m := by
                    rw [List.getElem?_map, hg] at hu
                    exact (Option.some.inj hu).symm
                  subst hu1
                  have HG := Lib.hid hg; have Hby := Lib.hid hby; have HAll := Lib.hid hall
                  clear hg hm hu hby hall
                  rw [eA]
                  by_cases c1 : m < 0
                  · have HX := Lib.hid (show VE = 3 by
                      rw [HVE3.out]; unfold rangeE
                      rw [show (v.marks.any fun m => !inB m 0 ((x.marks.length : Int) - 1)) = true from List.any_eq_true.2 ⟨m, List.mem_of_getElem? HG.out, by rw [inB_false.2 (.inl c1)]; rfl⟩]; rfl)
                    go_wp2_with fail
                    go_ret
                    exact ⟨by rw [HX.out]; rfl, HPost.out _ Hby.out⟩
                  · by_cases c2 : (x.marks.length : Int) ≤ m
                    · have HX := Lib.hid (show VE = 3 by
                        rw [HVE3.out]; unfold rangeE
                        rw [show (v.marks.any fun m => !inB m 0 ((x.marks.length : Int) - 1)) = true from List.any_eq_true.2 ⟨m, List.mem_of_getElem? HG.out, by rw [inB_false.2 (.inr (by omega))]; rfl⟩]; rfl)
                      go_wp2_with fail
                      go_ret
                      exact ⟨by rw [HX.out]; rfl, HPost.out _ Hby.out⟩
                    · have HX := Lib.hid (show inB m 0 ((x.marks.length : Int) - 1) = true from inB_true.2 ⟨by omega, by omega⟩)
                      rw [← eA]
                      go_wp2_with fail
                      exact ⟨⟨i + 1, hli, by go_num, Hby.out, fun j' m' hj' hm' => by
                        rcases Nat.lt_succ_iff_lt_or_eq.1 hj' with h | rfl
                        · exact HAll.out j' m' h hm'
                        · rw [HG.out] at hm'
                          obtain rfl := Option.some.inj hm'
                          exact HX.out⟩, by simp [RowKit.intOf]; omega⟩
                · obtain rfl : i = v.marks.length := by omega
                  have HX := Lib.hid (show VE = 0 by
                    rw [HVE3.out]; unfold rangeE
                    rw [show (v.marks.any fun m => !inB m 0 ((x.marks.length : Int) - 1)) = false from List.any_eq_false.2 fun m hm => by
                      obtain ⟨j, hj⟩ := List.getElem?_of_mem hm
                      rw [hall j m (List.getElem?_eq_some_iff.1 hj).1 hj]; decide]; rfl)
                  go_wp2_with fail
                  go_ret
                  exact ⟨by rw [HX.out]; rfl, HPost.out _ hby⟩
      · have q3 : (x.kind == 3) = false := by simpa using c3
        have Hw0 := Lib.hid (show wrongV x v = false by unfold wrongV; rw [Hmk.out, Hte.out]; simp [*])
        go_upto_region 14 with fail
        go_wp2_with fail
        go_loopw [12] (fun u wr => ∃ j : Nat, 1 ≤ j ∧ j ≤ max 1 v.marks.length ∧ u = .int .i64 j ∧ Bl w6 wr ∧ wrongTo false v.marks j = false) (fun u _ => v.marks.length - (RowKit.intOf u).toNat)
        case atStart => exact ⟨1, Nat.le_refl _, Nat.le_max_left _ _, rfl, Bl.refl _, wrongTo_one _ _⟩
        case round =>
          clear k1 k2 k3
          rename World => wr
          obtain ⟨j, hj1, hj2, rfl, hbr, hno⟩ := hrel
          have k2 := (B2.out.bl hbr).all4
          by_cases hlt : j < v.marks.length
          · have hst := wrongTo_succ false v.marks hj1
            rw [hno, Bool.false_or] at hst
            obtain ⟨ad, u1, eA, hu, hc1⟩ := (HV.out.bl (Hb06.out.trans hbr)).at_ hlt
            obtain ⟨ad', u2, eA', hu', hc2⟩ := (HV.out.bl (Hb06.out.trans hbr)).at_ (show j - 1 < v.marks.length by omega)
            rw [eA] at eA'
            obtain rfl := Option.some.inj eA'
            have hu1 : u1 = .int .i64 (v.marks.getD j 0) := by
              simp only [List.getElem?_map, Option.map_eq_some_iff] at hu
              obtain ⟨b, hb1, hb2⟩ := hu
              rw [← hb2, List.getD, hb1]; rfl
            have hu2 : u2 = .int .i64 (v.marks.getD (j - 1) 0) := by
              simp only [List.getElem?_map, Option.map_eq_some_iff] at hu'
              obtain ⟨b, hb1, hb2⟩ := hu'
              rw [← hb2, List.getD, hb1]; rfl
            clear hu hu'
            subst hu1 hu2
            obtain ⟨p1, hp1⟩ : ∃ z, z = v.marks.getD j 0 := ⟨_, rfl⟩
            obtain ⟨p2, hp2⟩ : ∃ z, z = v.marks.getD (j - 1) 0 := ⟨_, rfl⟩
            rw [← hp1, ← hp2] at hst
            rw [← hp1] at hc1
            rw [← hp2] at hc2
            have ej : ((j : Int) - 1) = ((j - 1 : Nat) : Int) := by omega
            have Hst := Lib.hid hst; have Hbr := Lib.hid hbr; have HEA := Lib.hid eA
            obtain ⟨jm, hjm⟩ : ∃ z, z = j - 1 := ⟨_, rfl⟩
            rw [← hjm] at hc2 ej
            have hjl : (jm : Int) < (v.marks.length : Int) := by omega
            rw [eA] at k2
            have Hj2 := Lib.hid hj2
            clear hp1 hp2 hst hbr hno eA hjm hj2
            go_upto_region 17 with fail
            refine wp_region_flow [(true, 0), (true, 1), (true, 2), (true, 3), (true, 4), (true, 5), (true, 6), (true, 7), (true, 8), (true, 9), (true, 10), (true, 11)] (fun _ => false) (by kernel_rfl) (by kernel_rfl) (by kernel_rfl) (by kernel_rfl) ?_
            iterate 1
              apply Flow.calm2 _ _ rfl rfl
              · intro w' hb' K' hK'
                obtain ⟨hc', hf'⟩ := hb'.rule
                go_simp
                try go_ints
                exact hK'
              · intro K' hK'
                simp only [Act.put, List.setIfInBounds_toArray, List.set_cons_zero, List.set_cons_succ]
                exact hK'
            iterate 1
              apply Flow.calm2 _ _ rfl rfl
              · intro w' hb' K' hK'
                obtain ⟨hc', hf'⟩ := hb'.rule
                go_simp
                try go_ints
                exact hK'
              · intro K' hK'
                simp only [Act.put, List.setIfInBounds_toArray, List.set_cons_zero, List.set_cons_succ]
                exact hK'
            iterate 1
              apply Flow.mv _ rfl
              · intro K' hK'
                simp only [Act.put, Act.eval, List.setIfInBounds_toArray, List.set_cons_zero, List.set_cons_succ, arr_getD, List.getD_cons_zero, List.getD_cons_succ]
                exact hK'
            iterate 1
              apply Flow.calm2 _ _ rfl rfl
              · intro w' hb' K' hK'
                obtain ⟨hc', hf'⟩ := hb'.rule
                go_simp
                try go_ints
                exact hK'
              · intro K' hK'
                simp only [Act.put, List.setIfInBounds_toArray, List.set_cons_zero, List.set_cons_succ]
                exact hK'
            iterate 1
              apply Flow.calm2 _ _ rfl rfl
              · intro w' hb' K' hK'
                obtain ⟨hc', hf'⟩ := hb'.rule
                go_simp
                try go_ints
                exact hK'
              · intro K' hK'
                simp only [Act.put, List.setIfInBounds_toArray, List.set_cons_zero, List.set_cons_succ]
                exact hK'
            iterate 1
              apply Flow.calm2 _ _ rfl rfl
              · intro w' hb' K' hK'
                obtain ⟨hc', hf'⟩ := hb'.rule
                go_simp
                try go_ints
                exact hK'
              · intro K' hK'
                simp only [Act.put, List.setIfInBounds_toArray, List.set_cons_zero, List.set_cons_succ]
                exact hK'
            iterate 1
              apply Flow.calm2 _ _ rfl rfl
              · intro w' hb' K' hK'
                obtain ⟨hc', hf'⟩ := hb'.rule
                go_simp
                try go_ints
                exact hK'
              · intro K' hK'
                simp only [Act.put, List.setIfInBounds_toArray, List.set_cons_zero, List.set_cons_succ]
                exact hK'
            iterate 1
              apply Flow.mv _ rfl
              · intro K' hK'
                simp only [Act.put, Act.eval, List.setIfInBounds_toArray, List.set_cons_zero, List.set_cons_succ, arr_getD, List.getD_cons_zero, List.getD_cons_succ]
                exact hK'
            iterate 1
              apply Flow.calm2 _ _ rfl rfl
              · intro w' hb' K' hK'
                obtain ⟨hc', hf'⟩ := hb'.rule
                go_simp
                try go_ints
                exact hK'
              · intro K' hK'
                simp only [Act.put, List.setIfInBounds_toArray, List.set_cons_zero, List.set_cons_succ]
                exact hK'
            iterate 1
              apply Flow.calm2 _ _ rfl rfl
              · intro w' hb' K' hK'
                obtain ⟨hc', hf'⟩ := hb'.rule
                go_simp
                try go_ints
                exact hK'
              · intro K' hK'
                simp only [Act.put, List.setIfInBounds_toArray, List.set_cons_zero, List.set_cons_succ]
                exact hK'
            iterate 1
              apply Flow.calm2 _ _ rfl rfl
              · intro w' hb' K' hK'
                obtain ⟨hc', hf'⟩ := hb'.rule
                go_simp
                try go_ints
                exact hK'
              · intro K' hK'
                simp only [Act.put, List.setIfInBounds_toArray, List.set_cons_zero, List.set_cons_succ]
                exact hK'
            iterate 1
              apply Flow.calm2 _ _ rfl rfl
              · intro w' hb' K' hK'
                obtain ⟨hc', hf'⟩ := hb'.rule
                go_simp
                try go_ints
                exact hK'
              · intro K' hK'
                simp only [Act.put, List.setIfInBounds_toArray, List.set_cons_zero, List.set_cons_succ]
                exact hK'
            refine Flow.done ?_
            by_cases c1 : p1 ≤ p2
            · have HX := Lib.hid (show VE = 2 by
                rw [HVE2.out, show wrongAll x v = true from by
                  unfold wrongAll
                  rw [Hw0.out]
                  exact wrongTo_mono (j := j + 1) (by rw [Hst.out]; exact decide_eq_true c1) _ (by omega)]; rfl)
              go_wp2_with fail
              go_ret
              exact ⟨by rw [HX.out]; rfl, HPost.out _ Hbr.out.drew⟩
            · have HX := Lib.hid (show wrongTo false v.marks (j + 1) = false by rw [Hst.out]; exact decide_eq_false c1)
              go_wp2_with fail
              exact ⟨⟨j + 1, by omega, by have := Hj2.out; omega, by go_num, Hbr.out.drew, HX.out⟩, by simp [RowKit.intOf]; omega⟩
          · have Hnw := Lib.hid (show wrongAll x v = false by unfold wrongAll; rw [Hw0.out, show max 1 v.marks.length = j by omega]; exact hno)
            have Hbr := Lib.hid hbr
            have HVE3 := Lib.hid (show VE = rangeE x v.marks by rw [HVE2.out, Hnw.out, whenI_false, firstNZ_pair]; simp)
            have k3 := (B6.out.bl hbr).all9
            clear hbr hno hj2
            go_wp2_with fail
            go_loopw [89] (fun u wy => ∃ i : Nat, i ≤ v.marks.length ∧ u = .int .i64 i ∧ Bl w6 wy ∧ ∀ (j : Nat) m, j < i → v.marks[j]? = some m → inB m 0 ((x.marks.length : Int) - 1) = true) (fun u _ => v.marks.length - (RowKit.intOf u).toNat)
            case atStart => exact ⟨0, Nat.zero_le _, rfl, Hbr.out, fun j m hj => absurd hj (Nat.not_lt_zero _)⟩
            case round =>
              clear k2 k3
              rename World => wy
              obtain ⟨i, hi, rfl, hby, hall⟩ := hrel
              have k2 := (B2.out.bl hby).all4
              have k3 := (B6.out.bl hby).all9
              by_cases hli : i < v.marks.length
              · have hg : v.marks[i]? = some v.marks[i] := List.getElem?_eq_getElem hli
                obtain ⟨m, hm⟩ : ∃ z, z = v.marks[i] := ⟨_, rfl⟩
                rw [← hm] at hg
                obtain ⟨ad, u1, eA, hu, hc1⟩ := (HV.out.bl (Hb06.out.trans hby)).at_ hli
                have hu1 : u1 = .int .i64 m := by
                  rw [List.getElem?_map, hg] at hu
                  exact (Option.some.inj hu).symm
                subst hu1
                have HG := Lib.hid hg; have Hby := Lib.hid hby; have HAll := Lib.hid hall
                clear hg hm hu hby hall
                rw [eA]
                by_cases c1 : m < 0
                · have HX := Lib.hid (show VE = 3 by
                    rw [HVE3.out]; unfold rangeE
                    rw [show (v.marks.any fun m => !inB m 0 ((x.marks.length : Int) - 1)) = true from List.any_eq_true.2 ⟨m, List.mem_of_getElem? HG.out, by rw [inB_false.2 (.inl c1)]; rfl⟩]; rfl)
                  go_wp2_with fail
                  go_ret
                  exact ⟨by rw [HX.out]; rfl, HPost.out _ Hby.out⟩
                · by_cases c2 : (x.marks.length : Int) ≤ m
                  · have HX := Lib.hid (show VE = 3 by
                      rw [HVE3.out]; unfold rangeE
                      rw [show (v.marks.any fun m => !inB m 0 ((x.marks.length : Int) - 1)) = true from List.any_eq_true.2 ⟨m, List.mem_of_getElem? HG.out, by rw [inB_false.2 (.inr (by omega))]; rfl⟩]; rfl)
                    go_wp2_with fail
                    go_ret
                    exact ⟨by rw [HX.out]; rfl, HPost.out _ Hby.out⟩
                  · have HX := Lib.hid (show inB m 0 ((x.marks.length : Int) - 1) = true from inB_true.2 ⟨by omega, by omega⟩)
                    rw [← eA]
                    go_wp2_with fail
                    exact ⟨⟨i + 1, hli, by go_num, Hby.out, fun j' m' hj' hm' => by
                      rcases Nat.lt_succ_iff_lt_or_eq.1 hj' with h | rfl
                      · exact HAll.out j' m' h hm'
                      · rw [HG.out] at hm'
                        obtain rfl := Option.some.inj hm'
                        exact HX.out⟩, by simp [RowKit.intOf]; omega⟩
              · obtain rfl : i = v.marks.length := by omega
                have HX := Lib.hid (show VE = 0 by
                  rw [HVE3.out]; unfold rangeE
                  rw [show (v.marks.any fun m => !inB m 0 ((x.marks.length : Int) - 1)) = false from List.any_eq_false.2 fun m hm => by
                    obtain ⟨j, hj⟩ := List.getElem?_of_mem hm
                    rw [hall j m (List.getElem?_eq_some_iff.1 hj).1 hj]; decide]; rfl)
                go_wp2_with fail
                go_ret
                exact ⟨by rw [HX.out]; rfl, HPost.out _ hby⟩
  | false =>
    by_cases cl : 0 < v.marks.length
    · have cli : 0 < (v.marks.length : Int) := by omega
      have HX := Lib.hid (show VE = 2 by
        rw [HVE2.out, show wrongAll x v = true from by
          unfold wrongAll
          exact wrongTo_mono (j := 0) (show wrongV x v = true by unfold wrongV; rw [Hmk.out, Hte.out]; simp [*]) _ (Nat.zero_le _)]; rfl)
      go_wp2_with fail
      go_ret
      exact ⟨by rw [HX.out]; rfl, HPost.out _ (Bl.refl _)⟩
    · have cli : ¬ 0 < (v.marks.length : Int) := by omega
      have cl1 : ¬ 1 < v.marks.length := by omega
      have q3 : (x.kind == 3) = false := by
        have h := Hmk.out
        unfold marksB at h
        simp at h
        simpa using h.1
      have c3 : ¬ x.kind = 3 := by simpa using q3
      have Hw0 := Lib.hid (show wrongV x v = false by unfold wrongV; rw [Hmk.out, Hte.out]; simp [*])
      go_upto_region 14 with fail
      go_wp2_with fail
      go_loopw [12] (fun u wr => ∃ j : Nat, 1 ≤ j ∧ j ≤ max 1 v.marks.length ∧ u = .int .i64 j ∧ Bl w6 wr ∧ wrongTo false v.marks j = false) (fun u _ => v.marks.length - (RowKit.intOf u).toNat)
      case atStart => exact ⟨1, Nat.le_refl _, Nat.le_max_left _ _, rfl, Bl.refl _, wrongTo_one _ _⟩
      case round =>
        clear k1 k2 k3
        rename World => wr
        obtain ⟨j, hj1, hj2, rfl, hbr, hno⟩ := hrel
        have k2 := (B2.out.bl hbr).all4
        by_cases hlt : j < v.marks.length
        · exact absurd hlt (by omega)
        · have Hnw := Lib.hid (show wrongAll x v = false by unfold wrongAll; rw [Hw0.out, show max 1 v.marks.length = j by omega]; exact hno)
          have Hbr := Lib.hid hbr
          have HVE3 := Lib.hid (show VE = rangeE x v.marks by rw [HVE2.out, Hnw.out, whenI_false, firstNZ_pair]; simp)
          have k3 := (B6.out.bl hbr).all9
          clear hbr hno hj2
          go_wp2_with fail
          go_loopw [89] (fun u wy => ∃ i : Nat, i ≤ v.marks.length ∧ u = .int .i64 i ∧ Bl w6 wy ∧ ∀ (j : Nat) m, j < i → v.marks[j]? = some m → inB m 0 ((x.marks.length : Int) - 1) = true) (fun u _ => v.marks.length - (RowKit.intOf u).toNat)
          case atStart => exact ⟨0, Nat.zero_le _, rfl, Hbr.out, fun j m hj => absurd hj (Nat.not_lt_zero _)⟩
          case round =>
            clear k2 k3
            rename World => wy
            obtain ⟨i, hi, rfl, hby, hall⟩ := hrel
            have k2 := (B2.out.bl hby).all4
            have k3 := (B6.out.bl hby).all9
            by_cases hli : i < v.marks.length
            · exact absurd hli (by omega)
            · obtain rfl : i = v.marks.length := by omega
              have HX := Lib.hid (show VE = 0 by
                rw [HVE3.out]; unfold rangeE
                rw [show (v.marks.any fun m => !inB m 0 ((x.marks.length : Int) - 1)) = false from List.any_eq_false.2 fun m hm => by
                  obtain ⟨j, hj⟩ := List.getElem?_of_mem hm
                  rw [hall j m (List.getElem?_eq_some_iff.1 hj).1 hj]; decide]; rfl)
              go_wp2_with fail
              go_ret
              exact ⟨by rw [HX.out]; rfl, HPost.out _ hby⟩
end Go.Proofs.YtahfkahfaiidgaaGreatDoor
