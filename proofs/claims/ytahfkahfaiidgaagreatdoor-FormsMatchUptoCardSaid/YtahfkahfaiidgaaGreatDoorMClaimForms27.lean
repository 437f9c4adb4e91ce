/- forms.anchors; what a right form gives; bedlaw2.formed and little. -/
import Derived.Test.YtahfkahfaiidgaaGreatDoorMClaimForms26
import Derived.Test.YtahfkahfaiidgaaGreatDoorMClaimForms22
import Derived.Test.YtahfkahfaiidgaaGreatDoorMClaimForms19
import Derived.Test.YtahfkahfaiidgaaGreatDoorMClaimForms2
import Derived.Test.YtahfkahfaiidgaaGreatDoorMClaimForms21
import Derived.Test.YtahfkahfaiidgaaGreatDoorMClaimForms20
import Derived.Test.YtahfkahfaiidgaaGreatDoorMClaimForms1

namespace Go.Proofs.YtahfkahfaiidgaaGreatDoor
open Go.RowKit Go.Shelf

theorem info_bx : (Tryz.prog.info? 79).map (fun i => (i.zero, i.size, i.bytes)) = some (some (.agg #[.int .i64 0, .int .i64 0, .int .i64 0, .int .i64 0]), 4, 32) := by kernel_rfl
theorem bx_one (l : List Bx) : ∀ u ∈ bxCells l, u.oneCell' = true := by
  intro u hu
  unfold bxCells at hu
  obtain ⟨b, _, h⟩ := List.mem_flatMap.1 hu
  unfold Bx.cells at h
  simp only [List.mem_cons, List.not_mem_nil, or_false] at h
  rcases h with rfl | rfl | rfl | rfl <;> rfl
theorem bxCells_append (a b : List Bx) : bxCells (a ++ b) = bxCells a ++ bxCells b := List.flatMap_append
/-- A row and a map lie apart. -/
theorem map_apart {w : World} {b base : Nat} {e : TypeId} {size n : Nat} {v : Value} {xs : List Value} {ks : List (List UInt8)} (hm : MapAt w b ks) (h : w.ownsRow base e size v n xs) : some b ≠ v.ownBlock := by
  obtain ⟨es, c, h1, -, -⟩ := hm
  rcases h.2 with ⟨rfl, -⟩ | ⟨g, cap, cur, rfl, -, hg, -⟩
  · intro h; cases h
  · intro hx
    have hx : b = g := Option.some.inj hx
    subst hx
    rw [h1] at hg
    cases hg
theorem MapAt.grown {w w' : World} {b : Nat} {ks : List (List UInt8)} {row : Option Nat} (h : MapAt w b ks) (hb : w.grownBy w' row) (hne : some b ≠ row) : MapAt w' b ks := by
  obtain ⟨es, c, h1, h2, h3⟩ := h
  exact ⟨es, c, (hb.block b (Array.getElem?_eq_some_iff.1 h1).1 hne).trans h1, h2, h3⟩
set_option maxRecDepth 100000 in
/-- The update, and that all else lies as it did. -/
theorem MapAt.update2 {w : World} {b : Nat} {ks : List (List UInt8)} (h : MapAt w b ks) (s : List UInt8) : ∃ w', (Instr.mapUpdate 69 (.map (some b)) (.string ⟨s.toArray⟩) (.bool true)).run Tryz.prog w = .ok () w' ∧ MapAt w' b (ks ++ [s]) ∧ (∀ w0, Bl w0 w → w0.heap.size ≤ b → Bl w0 w') ∧ ∀ k, k ≠ b → w'.heap[k]? = w.heap[k]? := by
  obtain ⟨es, c, h1, h2, h3⟩ := h
  have hk : MapKept.IsKey .string (.string ⟨s.toArray⟩) := trivial
  have hks : ∀ x ∈ es.toList, MapKept.IsKey .string x.key := fun x hx => by obtain ⟨t, _, e, _⟩ := h2 x hx; rw [e]; trivial
  obtain ⟨w', hr, hM, hB⟩ := MapAt.update ⟨es, c, h1, h2, h3⟩ s
  refine ⟨w', hr, hM, hB, fun k hkb => ?_⟩
  rcases MapKept.findNow_spec hk es.toList 0 hks with ⟨hf, hno⟩ | ⟨j, e, hf, hj, he⟩
  · have e2 : (Instr.mapUpdate 69 (.map (some b)) (.string ⟨s.toArray⟩) (.bool true)).run Tryz.prog w = .ok () { w with heap := w.heap.setIfInBounds b (.map (es.push ⟨.string ⟨s.toArray⟩, .bool true, c⟩) (c + 1)) } := by
      simp [Instr.mapUpdate, run_underlying Tryz.underlying69, MapKept.run_getObj_map h1, MapKept.run_checkKey Tryz.underlying9 hk, MapKept.run_findKey Tryz.underlying9 hf, MapKept.run_setObj_map _ h1, Result.andThen]
    obtain ⟨-, e3⟩ := Result.ok.inj (hr.symm.trans e2)
    rw [e3]
    exact Array.getElem?_setIfInBounds_ne (by omega)
  · have hj' : es[j]? = some e := by simpa using hj
    have e2 : (Instr.mapUpdate 69 (.map (some b)) (.string ⟨s.toArray⟩) (.bool true)).run Tryz.prog w = .ok () { w with heap := w.heap.setIfInBounds b (.map (es.modify j (fun e' => { e' with key := .string ⟨s.toArray⟩, val := .bool true })) c) } := by
      simp [Instr.mapUpdate, run_underlying Tryz.underlying69, MapKept.run_getObj_map h1, MapKept.run_checkKey Tryz.underlying9 hk, MapKept.run_findKey Tryz.underlying9 hf, hj', he, MapKept.run_keyThatStays hk, MapKept.run_setObj_map _ h1, Result.andThen]
    obtain ⟨-, e3⟩ := Result.ok.inj (hr.symm.trans e2)
    rw [e3]
    exact Array.getElem?_setIfInBounds_ne (by omega)
/-- A row that lies apart from the block that was changed. -/
theorem own_other {w w' : World} {base b : Nat} {e : TypeId} {size n : Nat} {v : Value} {xs : List Value} (h : w.ownsRow base e size v n xs) (hk : ∀ k, k ≠ b → w'.heap[k]? = w.heap[k]?) (hne : some b ≠ v.ownBlock) : w'.ownsRow base e size v n xs := by
  refine ⟨h.1, ?_⟩
  rcases h.2 with h2 | ⟨g, cap, cur, rfl, hg, hh, r⟩
  · exact .inl h2
  · refine .inr ⟨g, cap, cur, rfl, hg, (hk g ?_).trans hh, r⟩
    intro hx
    exact hne (by rw [hx]; rfl)
theorem any_over (a : Bx) (l : List Bx) : decide (∃ b ∈ l, a.over b = true) = l.any fun b => a.over b := by
  rw [Bool.eq_iff_iff, decide_eq_true_eq, List.any_eq_true]
theorem BxsAt.take {w : World} {L : Option Addr} {l : List Bx} (h : BxsAt w L l) (i : Nat) (hi : i ≤ l.length) : BxsAt w L (l.take i) := by
  have e : (l.take i).flatMap Bx.cells = (l.flatMap Bx.cells).take (i * 4) := by
    conv => rhs; rw [← List.take_append_drop i l, List.flatMap_append]
    rw [List.take_left' (by rw [flat_len Bx.cells 4 (fun _ => rfl), List.length_take]; omega)]
  unfold BxsAt
  rw [e]
  refine ⟨by rw [List.length_take, flat_len Bx.cells 4 (fun _ => rfl), List.length_take]; omega, fun hp => ?_⟩
  obtain ⟨ad, e1, hc⟩ := h.2 (by rw [List.length_take] at hp; omega)
  refine ⟨ad, e1, fun j u hj => hc j u ?_⟩
  rw [List.getElem?_take] at hj
  split at hj
  · exact hj
  · cases hj
end Go.Proofs.YtahfkahfaiidgaaGreatDoor


/-! forms.Check is formErr. -/
namespace Go.Proofs.YtahfkahfaiidgaaGreatDoor
open Go.RowKit Go.Shelf

set_option maxRecDepth 100000 in
set_option maxHeartbeats 8000000 in
theorem checkF_any (f : Frm) (w : World) (hF : FrmAt w f) (hS : f.small 1048576) (hN : NumOk w) (hC : SplitOk w) :
    Calls Tryz.prog 15 #[f.val] w fun e w' => e = .returned (.int .i64 f.err) ∧ Bl w w' := by
  obtain ⟨E, hE⟩ : ∃ y, y = f.err := ⟨_, rfl⟩
  rw [← hE]
  have HE := Lib.hid hE
  obtain ⟨nm, fW, fH, reach, dark, AL, ac, la, FL, fc, lf, RL, rc, lr⟩ := f
  let w1 := (w).alloc (.cells #[.string ⟨nm.toArray⟩, .int .i64 fW, .int .i64 fH, .int .i64 reach, .int .i64 dark, .slice AL la.length ac, .slice FL lf.length fc, .slice RL lr.length rc] 26)
  have w1b : Bl w w1 := (Bl.refl w).alloc _
  have w11 : Blk w1 (w.heap.size) 26 #[.string ⟨nm.toArray⟩, .int .i64 fW, .int .i64 fH, .int .i64 reach, .int .i64 dark, .slice AL la.length ac, .slice FL lf.length fc, .slice RL lr.length rc] := by
    have h0 := Blk.new (w) 26 #[.string ⟨nm.toArray⟩, .int .i64 fW, .int .i64 fH, .int .i64 reach, .int .i64 dark, .slice AL la.length ac, .slice FL lf.length fc, .slice RL lr.length rc]
    exact h0
  have HF := Lib.hid (hF.bl w1b); have HN := Lib.hid (hN.bl w1b); have HC := Lib.hid (hC.bl w1b); have HS := Lib.hid hS
  have hla := hF.an.2
  have hlf := hF.fn.2
  have hlr := hF.rn.2
  have hnm := fun wx => isName_any ⟨nm.toArray⟩ wx (by rw [Lib.size_mk]; exact hF.nm)
  have HNm := Lib.hid hnm
  have k1 := w11.all8
  have hmm := @run_makeMap Tryz.prog
  have HW1b := Lib.hid w1b
  unfold Frm.val
  clear hF hN hC hE hnm w1b hS
  go_enter Tryz.func15, Tryz.ntmps15
  go_wp2_with fail
  refine (HNm.out _).mono ?_
  rintro e w2 ⟨rfl, hb2⟩
  have Hb2 := Lib.hid hb2
  have k1 := (w11.bl hb2).all8
  clear hb2
  cases hN : nameB nm
  case false =>
    have HX := Lib.hid (show E = 5 by rw [HE.out]; unfold Frm.err formErr formHead; simp only [hN]; rfl)
    clear hN
    go_wp2_with fail
    go_ret
    exact ⟨by rw [HX.out]; rfl, HW1b.out.trans Hb2.out⟩
  have HNb := Lib.hid hN
  clear hN
  by_cases hz : sizeErr fW fH = 0
  case neg =>
    have HX := Lib.hid (show E = sizeErr fW fH by
      rw [HE.out]; unfold Frm.err formErr formHead
      simp only [HNb.out, Bool.not_true, whenI_false]
      rw [firstNZ_0, firstNZ_stop hz, firstNZ_stop hz])
    have hq : (sizeErr fW fH != 0) = true := by simp [hz]
    clear hz
    go_wp2_with (go_at_call 56; refine (checkSize_any _ _ _).mono ?_; rintro e w' ⟨rfl, rfl⟩)
    go_ret
    exact ⟨by rw [HX.out]; rfl, HW1b.out.trans Hb2.out⟩
  have hsz := sizeErr_zero hz
  obtain ⟨W, rfl⟩ := Int.eq_ofNat_of_zero_le (show 0 ≤ fW by omega)
  obtain ⟨H, rfl⟩ := Int.eq_ofNat_of_zero_le (show 0 ≤ fH by omega)
  have hW : 1 ≤ W ∧ W ≤ 4000 := by omega
  have hH : 1 ≤ H ∧ H ≤ 4000 := by omega
  have hhd : ∀ E1, formHead true W H reach dark la.length = E1 → E1 ≠ 0 → E = E1 := fun E1 h1 h2 => by
    rw [HE.out]; unfold Frm.err formErr
    simp only [HNb.out]
    rw [h1, firstNZ_stop h2]
  have hhd0 : formHead true W H reach dark la.length = firstNZ [whenI (!inB reach 0 40 || !inB dark 1 1000) 3, whenI (decide (10 < la.length)) 4] := by
    unfold formHead
    rw [hz]
    simp only [Bool.not_true, whenI_false]
    rw [firstNZ_0, firstNZ_0]
  have Hhd := Lib.hid hhd; have Hhd0 := Lib.hid hhd0; have HW := Lib.hid hW; have HH := Lib.hid hH
  have q0 : (sizeErr W H != 0) = false := by simp [hz]
  clear hsz hhd hhd0 hz
  go_upto_region 6 with (go_at_call 56; refine (checkSize_any _ _ _).mono ?_; rintro e w' ⟨rfl, rfl⟩)
  go_cut [29] from 30 to 48 (fun s29 wc => s29 = .bool (!inB reach 0 40 || !inB dark 1 1000) ∧ w2 = wc)
  case first =>
    rcases (show reach < 0 ∨ (¬ reach < 0 ∧ 40 < reach) ∨ (¬ reach < 0 ∧ ¬ 40 < reach ∧ dark < 1) ∨ (¬ reach < 0 ∧ ¬ 40 < reach ∧ ¬ dark < 1 ∧ 1000 < dark) ∨ (¬ reach < 0 ∧ ¬ 40 < reach ∧ ¬ dark < 1 ∧ ¬ 1000 < dark) by omega) with c1 | ⟨c1, c2⟩ | ⟨c1, c2, c3⟩ | ⟨c1, c2, c3, c4⟩ | ⟨c1, c2, c3, c4⟩
    all_goals
      go_wp2_with fail
      go_meet
      case rel => exact ⟨congrArg Value.bool (by unfold inB; simp; try omega), rfl⟩
  case rest =>
  rename World => wd
  obtain ⟨rfl, rfl⟩ := hcut
  obtain ⟨rg, hrg⟩ : ∃ b, b = (!inB reach 0 40 || !inB dark 1 1000) := ⟨_, rfl⟩
  rw [← hrg]
  have HRg := Lib.hid hrg
  clear hrg
  cases rg with
  | true =>
    have HX := Lib.hid (Hhd.out 3 (by rw [Hhd0.out, ← HRg.out]; rfl) (by decide))
    go_wp2_with fail
    go_ret
    exact ⟨by rw [HX.out]; rfl, HW1b.out.trans Hb2.out⟩
  | false =>
  by_cases h10 : 10 < la.length
  · have h10i : 10 < (la.length : Int) := by omega
    have HX := Lib.hid (Hhd.out 4 (by rw [Hhd0.out, ← HRg.out, decide_eq_true h10]; rfl) (by decide))
    go_wp2_with fail
    go_ret
    exact ⟨by rw [HX.out]; rfl, HW1b.out.trans Hb2.out⟩
  have h10i : ¬ 10 < (la.length : Int) := by omega
  have HE1 := Lib.hid (show E = firstNZ [ancsErr W H la, whenI (decide (lf.length = 0)) 9, whenI (decide (50 < lf.length)) 4, fldsErr W H [] lf, whenI (overB [] (boxesB la lf)) 11, whenI (decide (50 < lr.length)) 4, rulsErr lf lr] by
    rw [HE.out]; unfold Frm.err formErr
    simp only [HNb.out]
    rw [Hhd0.out, ← HRg.out, decide_eq_false h10]
    exact firstNZ_0)
  have h10n := Lib.hid h10
  have HFA := Lib.hid (HF.out.ancs.bl Hb2.out)
  have hca := fun (a : Anc) wx (hA : Reads wx 1 a.A a.m (a.bs.map .bool)) => checkAnchor_any ⟨nm, W, H, reach, dark, AL, ac, la, FL, fc, lf, RL, rc, lr⟩ a W H wx rfl rfl HW.out HH.out hA
  have hbx := fun (a : Anc) wx => anchorBox_any a wx
  unfold Frm.val Anc.val at hca
  unfold Anc.val Anc.box Bx.val at hbx
  have Hca := Lib.hid hca; have Hbx := Lib.hid hbx
  have W12 := Lib.hid (w11.bl Hb2.out)
  have hw2 := (w11.bl Hb2.out).lt
  clear hca hbx h10 w11
  go_wp2_with fail
  go_loopw [4, 56] (fun b u wr => ∃ i : Nat, i ≤ la.length ∧ u = .int .i64 i ∧ Bl w2 wr ∧ wr.ownsRow w2.heap.size 79 4 b i (bxCells ((la.take i).map Anc.box)) ∧ ancsErr W H (la.drop i) = ancsErr W H la) (fun _ u _ => la.length - (RowKit.intOf u).toNat)
  case atStart => exact ⟨0, Nat.zero_le _, rfl, Bl.refl _, World.ownsRow_nil _ _ _ _, rfl⟩
  case round =>
    obtain ⟨i, hi, rfl, hbr, hown, hes⟩ := hrel
    by_cases hlt : i < la.length
    · have hg : la[i]? = some la[i] := List.getElem?_eq_getElem hlt
      obtain ⟨a, ha⟩ : ∃ l, l = la[i] := ⟨_, rfl⟩
      rw [← ha] at hg
      obtain ⟨ad, e1, j1, j2, j3, j4, j5⟩ := (HFA.out.bl hbr).at_ hg
      have HAr := Lib.hid (HFA.out.2 a (List.mem_of_getElem? hg))
      have HG := Lib.hid hg; have HOw := Lib.hid hown; have HEs := Lib.hid hes; have Hbr := Lib.hid hbr
      have k1 := (W12.out.bl hbr).all8
      have hbsz := hbr.le
      clear hg ha hown hes
      rw [e1] at k1 ⊢
      go_upto_region 14 with fail
      obtain ⟨w5, hw5⟩ : ∃ x, x = wr.alloc (.cells #[.int .i64 a.W, .int .i64 a.H, .slice a.A a.m a.c, .int .i64 a.X, .int .i64 a.Y] 60) := ⟨_, rfl⟩
      have b5 : Blk w5 wr.heap.size 60 #[.int .i64 a.W, .int .i64 a.H, .slice a.A a.m a.c, .int .i64 a.X, .int .i64 a.Y] := by rw [hw5]; exact Blk.new _ _ _
      have hb5 : Bl wr w5 := by rw [hw5]; exact (Bl.refl _).alloc _
      rw [← hw5]
      have B5 := Lib.hid b5; have Hb5 := Lib.hid hb5
      have k1 := (W12.out.bl (hbr.trans hb5)).all8
      rw [e1] at k1
      have k2 := b5.all5
      clear hw5 b5 hb5 j1 j2 j3 j4 j5
      go_wp2_with fail
      rw [← e1]
      refine (Hca.out a _ (HAr.out.bl (Hbr.out.trans Hb5.out))).mono ?_
      rintro e w6 ⟨rfl, hb6⟩
      have Hb26 := Lib.hid (Hbr.out.trans (Hb5.out.trans hb6)); have Hbr6 := Lib.hid (Hb5.out.trans hb6)
      have k1 := (W12.out.bl Hb26.out).all8
      have k2 := (B5.out.bl hb6).all5
      clear hb6
      by_cases hz : ancErr W H a = 0
      · have hq : (ancErr W H a != 0) = false := by simp [hz]
        have HY := Lib.hid (show ancsErr W H (la.drop (i + 1)) = ancsErr W H la by rw [← HEs.out, ancsErr_from HG.out, if_pos hz])
        clear hz
        go_wp2_with fail
        refine (Hbx.out a _).mono ?_
        rintro e w7 ⟨rfl, hb7⟩
        have Hb27 := Lib.hid (Hb26.out.trans hb7)
        have hle7 := (Hb26.out.trans hb7).le
        have HO7 := Lib.hid (own_bl HOw.out (Hbr6.out.trans hb7))
        clear hb7
        go_wp2_with (at_builtin; refine wpList_append_bl (w1 := w2) rfl (.tmp 66) (.tmp 69) 80 rfl 79 (.agg #[.int .i64 0, .int .i64 0, .int .i64 0, .int .i64 0]) 4 32 Tryz.underlying80 info_bx rfl (by omega) w2.heap.size _ i (bxCells ((la.take i).map Anc.box)) rfl (Hb27.out.alloc _) (Nat.le_refl _) (by simp; omega) (HO7.out.alloc _) (some ⟨w7.heap.size, 0, none⟩) 1 1 [.int .i64 a.X, .int .i64 a.Y, .int .i64 a.W, .int .i64 a.H] rfl ((Blk.new w7 _ _).reads 1 4 rfl) (by simp [Value.oneCell']) (by unfold maxLen; omega) (by omega) ?_; intro v' w8 hown8 hb8 hg8; have HOw8 := Lib.hid hown8; have Hb8 := Lib.hid hb8; clear hown8 hb8 hg8)
        exact ⟨⟨i + 1, hlt, by go_num, Hb8.out, by rw [take_snoc HG.out, List.map_append, bxCells_append]; exact HOw8.out, HY.out⟩, by simp [RowKit.intOf]; omega⟩
      · have hq : (ancErr W H a != 0) = true := by simp [hz]
        have HX := Lib.hid (show E = ancErr W H a by
          have h1 : ancsErr W H la = ancErr W H a := by rw [← HEs.out, ancsErr_from HG.out, if_neg hz]
          rw [HE1.out, h1, firstNZ_stop hz])
        clear hz
        go_wp2_with fail
        go_ret
        exact ⟨by rw [HX.out]; rfl, HW1b.out.trans (Hb2.out.trans Hb26.out)⟩
    · obtain rfl : i = la.length := by omega
      have Hanc := Lib.hid (show ancsErr W H la = 0 by rw [← hes, List.drop_length]; rfl)
      rw [List.take_length] at hown
      have HOw := Lib.hid hown; have Hbr := Lib.hid hbr
      have k1 := (W12.out.bl hbr).all8
      have hbsz := hbr.le
      clear hes hown
      by_cases l0 : lf.length = 0
      · have q0 : ((lf.length : Int) == 0) = true := by rw [len0]; exact decide_eq_true l0
        have HX := Lib.hid (show E = 9 by rw [HE1.out, Hanc.out, firstNZ_0, decide_eq_true l0]; rfl)
        clear l0
        go_wp2_with fail
        go_ret
        exact ⟨by rw [HX.out]; rfl, HW1b.out.trans (Hb2.out.trans Hbr.out)⟩
      have q1 : ((lf.length : Int) == 0) = false := by rw [len0]; exact decide_eq_false l0
      by_cases l50 : 50 < lf.length
      · have l50i : 50 < (lf.length : Int) := by omega
        have HX := Lib.hid (show E = 4 by rw [HE1.out, Hanc.out, firstNZ_0, decide_eq_false l0, decide_eq_true l50]; rfl)
        clear l0
        go_wp2_with fail
        go_ret
        exact ⟨by rw [HX.out]; rfl, HW1b.out.trans (Hb2.out.trans Hbr.out)⟩
      have l50i : ¬ 50 < (lf.length : Int) := by omega
      have HE2 := Lib.hid (show E = firstNZ [fldsErr W H [] lf, whenI (overB [] (boxesB la lf)) 11, whenI (decide (50 < lr.length)) 4, rulsErr lf lr] by
        rw [HE1.out, Hanc.out, decide_eq_false l0, decide_eq_false l50, firstNZ_0, whenI_false, whenI_false, firstNZ_0, firstNZ_0])
      have hM0 := MapAt.new wr
      have Hb3 := Lib.hid (hbr.alloc (.map #[] 0))
      have Hgm := Lib.hid hbr.le
      have HOw0 := Lib.hid (own_bl HOw.out ((Bl.refl wr).alloc (.map #[] 0)))
      have HM0 := Lib.hid hM0
      have k1 := (W12.out.bl Hb3.out).all8
      have hlp : 0 < lf.length := by omega
      clear l0 hM0 hbr HOw
      go_upto_region 24 with fail
      obtain ⟨wm, hwm⟩ : ∃ x, x = wr.alloc (.map #[] 0) := ⟨_, rfl⟩
      rw [← hwm] at HM0 HOw0 Hb3 k1 ⊢
      obtain ⟨gm, hgm⟩ : ∃ g, g = wr.heap.size := ⟨_, rfl⟩
      rw [← hgm] at HM0 Hgm ⊢
      obtain ⟨adF, hFL, -⟩ := HF.out.flds.1.2 hlp
      simp only at hFL
      subst hFL
      have hcf := fun (x : Fld) (tw : Bool) wx (hM : BxsAt wx x.M x.marks) (h1 : x.name.length ≤ 9223372036854775807) (h2 : x.marks.length ≤ 9223372036854775807) => checkField_any ⟨nm, W, H, reach, dark, AL, ac, la, some adF, fc, lf, RL, rc, lr⟩ x tw W H wx rfl rfl HW.out HH.out hM h1 h2
      unfold Frm.val Fld.val at hcf
      have Hcf := Lib.hid hcf
      have HFF := Lib.hid (FldsAt.bl HF.out.flds Hb2.out)
      have hbx0 : boxesTo la lf 0 = la.map Anc.box := by simp [boxesTo, boxesB]
      have hl0 : (boxesTo la lf 0).length = la.length := by rw [hbx0, List.length_map]
      rw [← hbx0, ← hl0] at HOw0
      have h10f : (boxesTo la lf 0).length ≤ 10 := by rw [hl0]; have := h10n.out; omega
      have H10f := Lib.hid h10f
      clear hcf hwm hgm hbx0 hl0 hi hbsz hlt Hbr h10f hlp Hca Hbx HFA
      go_wp2_with fail
      go_loopw [4, 86] (fun b u wq => ∃ i : Nat, i ≤ lf.length ∧ u = .int .i64 i ∧ Bl w2 wq ∧ MapAt wq gm ((lf.take i).map Fld.name) ∧ wq.ownsRow w2.heap.size 79 4 b (boxesTo la lf i).length (bxCells (boxesTo la lf i)) ∧ fldsErr W H ((lf.take i).map Fld.name) (lf.drop i) = fldsErr W H [] lf ∧ (boxesTo la lf i).length ≤ 10 + 21 * i) (fun _ u _ => lf.length - (RowKit.intOf u).toNat)
      case atStart => exact ⟨0, Nat.zero_le _, rfl, Hb3.out, HM0.out, HOw0.out, rfl, H10f.out⟩
      case round =>
        clear HM0 HOw0 Hb3 H10f k1
        obtain ⟨i, hi, rfl, hbr, hMr, hown, hes, hbl⟩ := hrel
        by_cases hlt : i < lf.length
        · have hg : lf[i]? = some lf[i] := List.getElem?_eq_getElem hlt
          obtain ⟨x, hx⟩ : ∃ l, l = lf[i] := ⟨_, rfl⟩
          rw [← hx] at hg
          obtain ⟨ad', e1, j1, j2, j3, j4, j5, j6, j7, j8, j9⟩ := (HFF.out.bl hbr).at_ hg
          obtain rfl := Option.some.inj e1
          obtain ⟨hM, hmc, hml, hnl⟩ := HFF.out.2 x (List.mem_of_getElem? hg)
          have HG := Lib.hid hg; have HOw := Lib.hid hown; have HEs := Lib.hid hes; have Hbr := Lib.hid hbr; have HM := Lib.hid hM; have HMr := Lib.hid hMr
          have k1 := (W12.out.bl hbr).all8
          clear hg hx hown hes hM e1 hMr
          go_upto_region 27 with fail
          obtain ⟨w5, hw5⟩ : ∃ y, y = wr.alloc (.cells #[.string ⟨x.name.toArray⟩, .int .i64 x.kind, .int .i64 x.box.X, .int .i64 x.box.Y, .int .i64 x.box.W, .int .i64 x.box.H, .slice x.M x.marks.length x.mc, .int .i64 x.most, .bool x.needed] 82) := ⟨_, rfl⟩
          have b5 : Blk w5 wr.heap.size 82 #[.string ⟨x.name.toArray⟩, .int .i64 x.kind, .int .i64 x.box.X, .int .i64 x.box.Y, .int .i64 x.box.W, .int .i64 x.box.H, .slice x.M x.marks.length x.mc, .int .i64 x.most, .bool x.needed] := by rw [hw5]; exact Blk.new _ _ _
          have hb5 : Bl wr w5 := by rw [hw5]; exact (Bl.refl _).alloc _
          rw [← hw5]
          have B5 := Lib.hid b5; have Hb5 := Lib.hid hb5
          have k1 := (W12.out.bl (hbr.trans hb5)).all8
          have k2 := b5.all9
          have hM5 := HMr.out.bl hb5
          have hlk := hM5.lookup x.name
          have hgq : gm < wr.heap.size := by obtain ⟨es, c, h1, -, -⟩ := HMr.out; exact (Array.getElem?_eq_some_iff.1 h1).1
          obtain ⟨tw, htw⟩ : ∃ b, b = decide (x.name ∈ (lf.take i).map Fld.name) := ⟨_, rfl⟩
          rw [← htw] at hlk
          have Htw := Lib.hid htw; have HM5 := Lib.hid hM5
          clear hw5 b5 hb5 j1 j2 j3 j4 j5 j6 j7 j8 j9 htw hM5 hbr
          go_wp2_with fail
          refine (Hcf.out x tw _ (HM.out.bl (Hbr.out.trans Hb5.out)) hnl hml).mono ?_
          rintro e w6 ⟨rfl, hb6⟩
          have Hb26 := Lib.hid (Hbr.out.trans (Hb5.out.trans hb6)); have Hbr6 := Lib.hid (Hb5.out.trans hb6); have HM6 := Lib.hid (HM5.out.bl hb6)
          have k1 := (W12.out.bl Hb26.out).all8
          have k2 := (B5.out.bl hb6).all9
          have hfe : fldErr W H ((lf.take i).map Fld.name) x = fldE W H tw x := by rw [Htw.out]; rfl
          have Hfe := Lib.hid hfe
          by_cases hz : fldE W H tw x = 0
          · have hq : (fldE W H tw x != 0) = false := by simp [hz]
            have HY := Lib.hid (show fldsErr W H ((lf.take (i + 1)).map Fld.name) (lf.drop (i + 1)) = fldsErr W H [] lf by rw [← HEs.out, fldsErr_from HG.out, Hfe.out, if_pos hz])
            have hm20 := (fldE_ok hz).2.2.2.2.1
            obtain ⟨w7, hup, hM7, hB7, hK7⟩ := HM6.out.update2 x.name
            have hO6 := own_bl HOw.out Hbr6.out
            have hO7 := own_other hO6 hK7 (map_apart HM6.out hO6)
            have hk2' : Blk w7 wr.heap.size 82 #[.string ⟨x.name.toArray⟩, .int .i64 x.kind, .int .i64 x.box.X, .int .i64 x.box.Y, .int .i64 x.box.W, .int .i64 x.box.H, .slice x.M x.marks.length x.mc, .int .i64 x.most, .bool x.needed] := (hK7 _ (by omega)).trans (B5.out.bl hb6)
            have hgw2 : w2.heap.size ≤ gm := Hgm.out
            have hb7 : Bl w2 w7 := hB7 w2 Hb26.out hgw2
            have hle7 := hb7.le
            have k3 := hk2'.all9
            have hM7' : MapAt w7 gm ((lf.take (i + 1)).map Fld.name) := by rw [take_snoc HG.out, List.map_append]; exact hM7
            have HM7 := Lib.hid hM7'; have HO7 := Lib.hid hO7; have Hb7 := Lib.hid hb7; have HX7 := Lib.hid (HM.out.bl hb7); have HB7 := Lib.hid hk2'
            obtain ⟨n, hn⟩ : ∃ n, n = (boxesTo la lf i).length := ⟨_, rfl⟩
            have Hn := Lib.hid hn
            have hbi : n ≤ 10 + 21 * i := by rw [hn]; exact hbl
            have Hbs := Lib.hid (boxesTo_succ (la := la) HG.out)
            rw [← hn] at HO7
            clear hz hfe hM7 hB7 hK7 hO6 hO7 hk2' hM7' hb7 hb6 hn hlk hbl
            go_wp2_with fail
            refine (hasMarks_any _ _).mono ?_
            rintro e w' ⟨rfl, rfl⟩
            cases hmk : marksB x.kind with
            | true =>
              have HFB := Lib.hid (show fldBoxes x = x.marks by unfold fldBoxes; rw [hmk]; rfl)
              go_wp2_with (at_builtin; refine wpList_append_bl (w1 := w2) rfl (.tmp 112) (.tmp 114) 80 rfl 79 (.agg #[.int .i64 0, .int .i64 0, .int .i64 0, .int .i64 0]) 4 32 Tryz.underlying80 info_bx rfl (by omega) w2.heap.size _ n (bxCells (boxesTo la lf i)) rfl Hb7.out (Nat.le_refl _) hle7 HO7.out x.M x.marks.length x.mc (bxCells x.marks) rfl HX7.out (bx_one x.marks) (by unfold maxLen; omega) (by omega) ?_; intro v9 w9 hown9 hb9 hg9)
              have HM9 := Lib.hid (HM7.out.grown hg9 (map_apart HM7.out HO7.out)); have HO9 := Lib.hid hown9; have Hb9 := Lib.hid hb9
              clear hown9 hb9 hg9
              go_wp2_with fail
              have hlen : (boxesTo la lf (i + 1)).length = n + x.marks.length := by rw [Hbs.out, List.length_append, ← Hn.out, HFB.out]
              exact ⟨⟨i + 1, hlt, by go_num, Hb9.out, HM9.out, by rw [hlen, Hbs.out, bxCells_append, HFB.out]; exact HO9.out, HY.out, by rw [hlen]; omega⟩, by simp [RowKit.intOf]; omega⟩
            | false =>
              have HFB := Lib.hid (show fldBoxes x = x.box :: x.marks by unfold fldBoxes; rw [hmk]; rfl)
              go_upto_region 33 with (at_builtin; refine wpList_append_bl (w1 := w2) rfl (.tmp 107) (.tmp 110) 80 rfl 79 (.agg #[.int .i64 0, .int .i64 0, .int .i64 0, .int .i64 0]) 4 32 Tryz.underlying80 info_bx rfl (by omega) w2.heap.size _ n (bxCells (boxesTo la lf i)) rfl (Hb7.out.alloc _) (Nat.le_refl _) (by simp; omega) (HO7.out.alloc _) (some ⟨w7.heap.size, 0, none⟩) 1 1 [.int .i64 x.box.X, .int .i64 x.box.Y, .int .i64 x.box.W, .int .i64 x.box.H] rfl ((Blk.new w7 _ _).reads 1 4 rfl) (by simp [Value.oneCell']) (by unfold maxLen; omega) (by omega) ?_; intro v8 w8 hown8 hb8 hg8)
              have hle8 := hb8.le
              have hMl : MapAt (w7.alloc (.cells #[.int .i64 x.box.X, .int .i64 x.box.Y, .int .i64 x.box.W, .int .i64 x.box.H] 79)) gm ((lf.take (i + 1)).map Fld.name) := HM7.out.bl ((Bl.refl _).alloc _)
              have HM8 := Lib.hid (hMl.grown hg8 (map_apart HM7.out HO7.out)); have HO8 := Lib.hid hown8; have Hb8 := Lib.hid hb8; have HX8 := Lib.hid (HM.out.bl hb8)
              have k4 := ((HB7.out.alloc _).grown hg8 (fun e => Nat.ne_of_lt (HOw.out.lt _ e.symm).2 rfl)).all9
              clear hMl hown8 hb8 hg8 k3 k2
              go_wp2_with (at_builtin; refine wpList_append_bl (w1 := w2) rfl (.tmp 112) (.tmp 114) 80 rfl 79 (.agg #[.int .i64 0, .int .i64 0, .int .i64 0, .int .i64 0]) 4 32 Tryz.underlying80 info_bx rfl (by omega) w2.heap.size v8 (n + 1) (bxCells (boxesTo la lf i) ++ [.int .i64 x.box.X, .int .i64 x.box.Y, .int .i64 x.box.W, .int .i64 x.box.H]) rfl Hb8.out (Nat.le_refl _) hle8 HO8.out x.M x.marks.length x.mc (bxCells x.marks) rfl HX8.out (bx_one x.marks) (by unfold maxLen; omega) (by omega) ?_; intro v9 w9 hown9 hb9 hg9)
              have HM9 := Lib.hid (HM8.out.grown hg9 (map_apart HM8.out HO8.out)); have HO9 := Lib.hid hown9; have Hb9 := Lib.hid hb9
              clear hown9 hb9 hg9
              have hlen : (boxesTo la lf (i + 1)).length = n + 1 + x.marks.length := by rw [Hbs.out, List.length_append, ← Hn.out, HFB.out, List.length_cons]; omega
              exact ⟨⟨i + 1, hlt, by go_num, Hb9.out, HM9.out, by rw [hlen, Hbs.out, bxCells_append, HFB.out, show bxCells (x.box :: x.marks) = [.int .i64 x.box.X, .int .i64 x.box.Y, .int .i64 x.box.W, .int .i64 x.box.H] ++ bxCells x.marks from rfl, ← List.append_assoc]; exact HO9.out, HY.out, by rw [hlen]; omega⟩, by simp [RowKit.intOf]; omega⟩
          · have hq : (fldE W H tw x != 0) = true := by simp [hz]
            have HX := Lib.hid (show E = fldE W H tw x by
              have h1 : fldsErr W H [] lf = fldE W H tw x := by rw [← HEs.out, fldsErr_from HG.out, Hfe.out, if_neg hz]
              rw [HE2.out, h1, firstNZ_stop hz])
            clear hz
            go_wp2_with fail
            go_ret
            exact ⟨by rw [HX.out]; rfl, HW1b.out.trans (Hb2.out.trans Hb26.out)⟩
        · obtain rfl : i = lf.length := by omega
          have Hfld := Lib.hid (show fldsErr W H [] lf = 0 by rw [← hes, List.drop_length]; rfl)
          have hbe : boxesTo la lf lf.length = boxesB la lf := by unfold boxesTo; rw [List.take_length]
          rw [hbe] at hown hbl
          obtain ⟨bl, hbl'⟩ : ∃ l, l = boxesB la lf := ⟨_, rfl⟩
          rw [← hbl'] at hown hbl
          have hok : ∀ b ∈ bl, b.Ok := fun b hb => Bx.ok (W := W) (H := H) (by have := HW.out; omega) (by have := HH.out; omega) (boxes_ok Hanc.out Hfld.out b (by rw [← hbl']; exact hb))
          have HE3 := Lib.hid (show E = firstNZ [whenI (overB [] bl) 11, whenI (decide (50 < lr.length)) 4, rulsErr lf lr] by rw [HE2.out, Hfld.out, firstNZ_0, hbl'])
          obtain ⟨A, c, rfl, hr, -⟩ := own_new hown
          have hnc : 0 < bl.length → bl.length ≤ c := fun hp => by
            obtain ⟨g, cap, e, -, hle⟩ := own_some hown hp
            injection e with _ _ e3
            omega
          have HR := Lib.hid (show BxsAt wr A bl from hr); have Hok := Lib.hid hok; have Hbr := Lib.hid hbr
          have k1 := (W12.out.bl hbr).all8
          clear hes hMr hown hbe hbl' hok hr hbr
          have hcr := fun (r : Rul) wx (hF : FrmAt wx ⟨nm, W, H, reach, dark, AL, ac, la, some adF, fc, lf, RL, rc, lr⟩) h3 hN hC => checkRule_any _ r wx hF h3 hN hC
          unfold Frm.val Rul.val at hcr
          have Hcr := Lib.hid hcr
          have hblm : bl.length ≤ 9223372036854775807 := by omega
          have HW2b := Lib.hid (HW1b.out.trans Hb2.out)
          clear Hcf HFF hcr Hanc Hfld hi hlt hmm
          go_wp2_with fail
          go_loopw [119] (fun u wy => ∃ i : Nat, i ≤ bl.length ∧ u = .int .i64 i ∧ Bl wr wy ∧ overB (bl.take i) (bl.drop i) = overB [] bl) (fun u _ => bl.length - (RowKit.intOf u).toNat)
          case atStart => exact ⟨0, Nat.zero_le _, rfl, Bl.refl _, rfl⟩
          case round =>
            rename World => wb
            obtain ⟨i, hi, rfl, hbr, hov⟩ := hrel
            have HOv := Lib.hid hov; have Hwb := Lib.hid hbr
            clear hov k1
            by_cases hlt : i < bl.length
            · have hg : bl[i]? = some bl[i] := List.getElem?_eq_getElem hlt
              obtain ⟨b, hb⟩ : ∃ l, l = bl[i] := ⟨_, rfl⟩
              rw [← hb] at hg
              obtain ⟨ad, e1, j1, j2, j3, j4⟩ := BxsAt.at_ (BxsAt.bl HR.out hbr) hg
              subst e1
              have hic : (i : Int) ≤ (c : Int) := by have := hnc (by omega); omega
              have HG := Lib.hid hg
              clear hg hb hbr
              go_upto_region 38 with fail
              obtain ⟨w5, hw5⟩ : ∃ y, y = wb.alloc (.cells #[.int .i64 b.X, .int .i64 b.Y, .int .i64 b.W, .int .i64 b.H] 79) := ⟨_, rfl⟩
              have b5 : Blk w5 wb.heap.size 79 #[.int .i64 b.X, .int .i64 b.Y, .int .i64 b.W, .int .i64 b.H] := by rw [hw5]; exact Blk.new _ _ _
              have hb5 : Bl wb w5 := by rw [hw5]; exact (Bl.refl _).alloc _
              rw [← hw5]
              have hlb : (bl.take i).length = i := by rw [List.length_take]; omega
              have hcn := bxContains_any (some ad) c (bl.take i) 62 #[.pointer (some ⟨wb.heap.size, 0, none⟩)] b.over w5 ((BxsAt.bl HR.out (Hwb.out.trans hb5)).take i hi) (check1_tests _ b (bl.take i) w5 b5 (Hok.out b (List.mem_of_getElem? HG.out)) (fun y hy => Hok.out y (List.mem_of_mem_take hy))) (by omega)
              rw [hlb, any_over] at hcn
              obtain ⟨ov, hov⟩ : ∃ v, v = ((bl.take i).any fun p => b.over p) := ⟨_, rfl⟩
              rw [← hov] at hcn
              have Hcn := Lib.hid hcn; have Hov := Lib.hid hov; have Hb5 := Lib.hid (Hwb.out.trans hb5)
              clear hw5 b5 hb5 j1 j2 j3 j4 hlb hcn hov
              go_wp2_with fail
              refine Hcn.out.mono ?_
              rintro e w6 ⟨rfl, hb6⟩
              have Hb6 := Lib.hid (Hb5.out.trans hb6)
              clear hb6
              cases ov with
              | true =>
                have HX := Lib.hid (show E = 11 by
                  have h1 : overB [] bl = true := by rw [← HOv.out, overB_from HG.out, ← Hov.out]; rfl
                  rw [HE3.out, h1]; rfl)
                go_wp2_with fail
                go_ret
                exact ⟨by rw [HX.out]; rfl, HW2b.out.trans (Hbr.out.trans Hb6.out)⟩
              | false =>
                have HX := Lib.hid (show overB (bl.take (i + 1)) (bl.drop (i + 1)) = overB [] bl by rw [← HOv.out, overB_from HG.out, ← Hov.out]; rfl)
                go_wp2_with fail
                exact ⟨⟨i + 1, hlt, by go_num, Hb6.out, HX.out⟩, by simp [RowKit.intOf]; omega⟩
            · obtain rfl : i = bl.length := by omega
              have Hno := Lib.hid (show overB [] bl = false by rw [← HOv.out]; exact overB_end)
              have Hb3 := Lib.hid (Hbr.out.trans hbr)
              have k1 := (W12.out.bl Hb3.out).all8
              clear hbr
              by_cases l50r : 50 < lr.length
              · have l50ri : 50 < (lr.length : Int) := by omega
                have HX := Lib.hid (show E = 4 by rw [HE3.out, Hno.out, decide_eq_true l50r]; rfl)
                go_wp2_with fail
                go_ret
                exact ⟨by rw [HX.out]; rfl, HW2b.out.trans Hb3.out⟩
              have l50ri : ¬ 50 < (lr.length : Int) := by omega
              have HE4 := Lib.hid (show E = rulsErr lf lr by rw [HE3.out, Hno.out, decide_eq_false l50r, whenI_false, whenI_false, firstNZ_0, firstNZ_0]; unfold firstNZ; split <;> simp_all [firstNZ])
              have HFR := Lib.hid (RulsAt.bl HF.out.ruls Hb2.out)
              clear HOv Hwb hi hlt
              go_wp2_with fail
              go_loopw [137] (fun u wy => ∃ i : Nat, i ≤ lr.length ∧ u = .int .i64 i ∧ Bl w2 wy ∧ rulsErr lf (lr.drop i) = rulsErr lf lr) (fun u _ => lr.length - (RowKit.intOf u).toNat)
              case atStart => exact ⟨0, Nat.zero_le _, rfl, Hb3.out, rfl⟩
              case round =>
                clear k1
                rename World => wq
                obtain ⟨i, hi, rfl, hbq, hes⟩ := hrel
                by_cases hlt : i < lr.length
                · have hg : lr[i]? = some lr[i] := List.getElem?_eq_getElem hlt
                  obtain ⟨r, hr⟩ : ∃ l, l = lr[i] := ⟨_, rfl⟩
                  rw [← hr] at hg
                  obtain ⟨ad2, e2, j1, j2, j3, j4⟩ := (HFR.out.bl hbq).at_ hg
                  subst e2
                  have HG := Lib.hid hg; have HEs := Lib.hid hes; have Hbq := Lib.hid hbq
                  have k1 := (W12.out.bl hbq).all8
                  clear hg hr hes
                  go_upto_region 46 with fail
                  obtain ⟨w5, hw5⟩ : ∃ y, y = wq.alloc (.cells #[.int .i64 r.kind, .string ⟨r.field.toArray⟩, .string ⟨r.other.toArray⟩, .string ⟨r.text.toArray⟩] 76) := ⟨_, rfl⟩
                  have b5 : Blk w5 wq.heap.size 76 #[.int .i64 r.kind, .string ⟨r.field.toArray⟩, .string ⟨r.other.toArray⟩, .string ⟨r.text.toArray⟩] := by rw [hw5]; exact Blk.new _ _ _
                  have hb5 : Bl wq w5 := by rw [hw5]; exact (Bl.refl _).alloc _
                  rw [← hw5]
                  have k1 := (W12.out.bl (hbq.trans hb5)).all8
                  have k2 := b5.all4
                  have Hb5 := Lib.hid (hbq.trans hb5)
                  clear hw5 b5 hb5 j1 j2 j3 j4 hbq
                  go_wp2_with fail
                  refine (Hcr.out r _ (HF.out.bl (Hb2.out.trans Hb5.out)) (HS.out r (List.mem_of_getElem? HG.out)) (HN.out.bl (Hb2.out.trans Hb5.out)) (HC.out.bl (Hb2.out.trans Hb5.out))).mono ?_
                  rintro e w6 ⟨rfl, hb6⟩
                  have Hb6 := Lib.hid (Hb5.out.trans hb6)
                  clear hb6 k1 k2
                  by_cases hz : rulErr lf r = 0
                  · have hq : (rulErr lf r != 0) = false := by simp [hz]
                    have HX := Lib.hid (show rulsErr lf (lr.drop (i + 1)) = rulsErr lf lr by rw [← HEs.out, rulsErr_from HG.out, if_pos hz])
                    clear hz
                    go_wp2_with fail
                    exact ⟨⟨i + 1, hlt, by go_num, Hb6.out, HX.out⟩, by simp [RowKit.intOf]; omega⟩
                  · have hq : (rulErr lf r != 0) = true := by simp [hz]
                    have HX := Lib.hid (show E = rulErr lf r by rw [HE4.out, ← HEs.out, rulsErr_from HG.out, if_neg hz])
                    clear hz
                    go_wp2_with fail
                    go_ret
                    exact ⟨by rw [HX.out]; rfl, HW2b.out.trans Hb6.out⟩
                · obtain rfl : i = lr.length := by omega
                  have HX := Lib.hid (show E = 0 by rw [HE4.out, ← hes, List.drop_length]; rfl)
                  go_wp2_with fail
                  go_ret
                  exact ⟨by rw [HX.out]; rfl, HW2b.out.trans hbq⟩
end Go.Proofs.YtahfkahfaiidgaaGreatDoor


/-! forms.anchors; what a right form gives; bedlaw2.formed and little. -/
namespace Go.Proofs.YtahfkahfaiidgaaGreatDoor
open Go.RowKit Go.Shelf

theorem info_found : (Tryz.prog.info? 62).map (fun i => (i.zero, i.size, i.bytes)) = some (some (.agg #[.int .i64 0, .int .i64 0, .int .i64 0]), 3, 24) := by kernel_rfl
def fndCells (f : Frm) (cs : List Bool) (a : Anc) : List Value := [.int .i64 (foundA f cs a).1, .int .i64 (foundA f cs a).2.1, .int .i64 (foundA f cs a).2.2]
/-- A right form. -/
theorem fits_of {f : Frm} (h : f.err = 0) : ∃ W H r, Fits f W H r := by
  unfold Frm.err formErr at h
  have hz := firstNZ_zero h
  have hh := hz (formHead (nameB f.name) f.W f.H f.reach f.dark f.la.length) (by simp)
  have ha := hz (ancsErr f.W f.H f.la) (by simp)
  unfold formHead at hh
  have hy := firstNZ_zero hh
  have hs := sizeErr_zero (hy (sizeErr f.W f.H) (by simp))
  have hr := hy (whenI (!inB f.reach 0 40 || !inB f.dark 1 1000) 3) (by simp)
  have hl := hy (whenI (decide (10 < f.la.length)) 4) (by simp)
  obtain ⟨W, hW⟩ := Int.eq_ofNat_of_zero_le (show 0 ≤ f.W by omega)
  obtain ⟨H, hH⟩ := Int.eq_ofNat_of_zero_le (show 0 ≤ f.H by omega)
  have hi : inB f.reach 0 40 = true := by
    cases hc : inB f.reach 0 40 with
    | true => rfl
    | false => rw [hc] at hr; exact absurd hr (by simp [whenI])
  have hi2 := inB_true.1 hi
  obtain ⟨r, hr2⟩ := Int.eq_ofNat_of_zero_le hi2.1
  have e := Int.natCast_mul W H
  rw [hW, hH] at hs ha
  exact ⟨W, H, r, hW, hH, hr2, by omega, by omega, by omega, by omega, by
    apply Classical.byContradiction
    intro hn
    rw [decide_eq_true (show 10 < f.la.length by omega)] at hl
    exact absurd hl (by decide), fun a ha2 => ancsErr_ok ha a ha2⟩
set_option maxRecDepth 100000 in
set_option maxHeartbeats 4000000 in
theorem anchors_any (f : Frm) (C : Option Addr) (cc : Nat) (cs : List Bool) (W H r : Nat) (w : World) (hfit : Fits f W H r) (hF : FrmAt w f) (hC : Reads w 1 C (W * H) (cs.map .bool)) :
    Calls Tryz.prog 51 #[f.val, .agg #[.int .i64 W, .int .i64 H, .slice C (W * H) cc]] w fun e w' => ∃ A c, e = .returned (.slice A f.la.length c) ∧ Reads w' 3 A f.la.length (f.la.flatMap (fndCells f cs)) ∧ Bl w w' := by
  have hfo := fun (a : Anc) (BW BH : Nat) wx (q1 : a.W = (BW : Int)) (q2 : a.H = (BH : Int)) (q3 : a.m = BW * BH) (q4 : a.box.inP f.W f.H = true) hA hC => find_any f a C cc cs W H BW BH r wx hfit.fW hfit.fH hfit.fr q1 q2 q3 hfit.hr hfit.hW hfit.hH hfit.hWH q4 hA hC
  have hat := fun (a : Anc) (ha : a ∈ f.la) => hfit.at_ ha
  obtain ⟨FC, hFC⟩ : ∃ o, o = fndCells f cs := ⟨_, rfl⟩
  have hFC2 : ∀ a, FC a = [.int .i64 (foundA f cs a).1, .int .i64 (foundA f cs a).2.1, .int .i64 (foundA f cs a).2.2] := fun a => by rw [hFC]; rfl
  rw [← hFC]
  have hl10 : f.la.length ≤ 10 := hfit.hla
  obtain ⟨nm, fW, fH, reach, dark, AL, ac, la, FL, fc, lf, RL, rc, lr⟩ := f
  have e1 := hfit.fW
  have e2 := hfit.fH
  have e3 := hfit.fr
  simp only at e1 e2 e3 hl10
  subst e1 e2 e3
  have HFA := Lib.hid (AncsAt.bl hF.ancs (Bl.refl w))
  have HC := Lib.hid hC; have HFC := Lib.hid hFC2; have Hat := Lib.hid hat
  let w1 := ((w).alloc (.cells #[.string ⟨nm.toArray⟩, .int .i64 W, .int .i64 H, .int .i64 r, .int .i64 dark, .slice AL la.length ac, .slice FL lf.length fc, .slice RL lr.length rc] 26)).alloc (.cells #[.int .i64 W, .int .i64 H, .slice C (W * H) cc] 42)
  have w1b : Bl w w1 := ((Bl.refl w).alloc _).alloc _
  have w11 : Blk w1 (w.heap.size) 26 #[.string ⟨nm.toArray⟩, .int .i64 W, .int .i64 H, .int .i64 r, .int .i64 dark, .slice AL la.length ac, .slice FL lf.length fc, .slice RL lr.length rc] := by
    have h0 := Blk.new (w) 26 #[.string ⟨nm.toArray⟩, .int .i64 W, .int .i64 H, .int .i64 r, .int .i64 dark, .slice AL la.length ac, .slice FL lf.length fc, .slice RL lr.length rc]
    exact (h0.alloc _)
  have w12 : Blk w1 (w.heap.size + 1) 42 #[.int .i64 W, .int .i64 H, .slice C (W * H) cc] := by
    have h0 := Blk.new ((w).alloc (.cells #[.string ⟨nm.toArray⟩, .int .i64 W, .int .i64 H, .int .i64 r, .int .i64 dark, .slice AL la.length ac, .slice FL lf.length fc, .slice RL lr.length rc] 26)) 42 #[.int .i64 W, .int .i64 H, .slice C (W * H) cc]
    simp only [World.size_alloc] at h0
    exact h0
  unfold Frm.val Anc.val at hfo
  have Hfo := Lib.hid hfo
  have k1 := w11.all8
  have k2 := w12.all3
  have HW1b := Lib.hid w1b
  unfold Frm.val
  clear hF hC hfit hfo hat hFC hFC2 w1b
  show Calls _ _ _ w fun e w' => ∃ A c, e = .returned (.slice A la.length c) ∧ Reads w' 3 A la.length (la.flatMap FC) ∧ Bl w w'
  go_enter Tryz.func51, Tryz.ntmps51
  go_upto_region 1 with fail
  rw [show (w.alloc (.cells #[.string ⟨nm.toArray⟩, .int .i64 W, .int .i64 H, .int .i64 r, .int .i64 dark, .slice AL la.length ac, .slice FL lf.length fc, .slice RL lr.length rc] 26)).alloc (.cells #[.int .i64 W, .int .i64 H, .slice C (W * H) cc] 42) = w1 from rfl]
  clear_value w1
  go_wp2_with fail
  go_loopw [5, 11] (fun b u wr => ∃ i : Nat, i ≤ la.length ∧ u = .int .i64 i ∧ Bl w1 wr ∧ wr.ownsRow w1.heap.size 62 3 b i ((la.take i).flatMap FC)) (fun _ u _ => la.length - (RowKit.intOf u).toNat)
  case atStart => exact ⟨0, Nat.zero_le _, rfl, Bl.refl _, World.ownsRow_nil _ _ _ _⟩
  case round =>
    clear k1 k2
    obtain ⟨i, hi, rfl, hbr, hown⟩ := hrel
    by_cases hlt : i < la.length
    · have hg : la[i]? = some la[i] := List.getElem?_eq_getElem hlt
      obtain ⟨a, ha2⟩ : ∃ l, l = la[i] := ⟨_, rfl⟩
      rw [← ha2] at hg
      obtain ⟨ad, e1, j1, j2, j3, j4, j5⟩ := (HFA.out.bl (HW1b.out.trans hbr)).at_ hg
      subst e1
      obtain ⟨BW, BH, q1, q2, q3, q4, q5, q6, q7, q8⟩ := Hat.out a (List.mem_of_getElem? hg)
      have HAr := Lib.hid (HFA.out.2 a (List.mem_of_getElem? hg))
      have hfo2 := fun wx hA hC => Hfo.out a BW BH wx q1 q2 q3 q4 hA hC
      obtain ⟨fx, hfx⟩ : ∃ z, z = (foundA ⟨nm, W, H, r, dark, some ad, ac, la, FL, fc, lf, RL, rc, lr⟩ cs a).1 := ⟨_, rfl⟩
      obtain ⟨fy, hfy⟩ : ∃ z, z = (foundA ⟨nm, W, H, r, dark, some ad, ac, la, FL, fc, lf, RL, rc, lr⟩ cs a).2.1 := ⟨_, rfl⟩
      obtain ⟨fn, hfn⟩ : ∃ z, z = (foundA ⟨nm, W, H, r, dark, some ad, ac, la, FL, fc, lf, RL, rc, lr⟩ cs a).2.2 := ⟨_, rfl⟩
      have hfa := HFC.out a
      rw [← hfx, ← hfy, ← hfn] at hfo2 hfa
      have Hfo2 := Lib.hid hfo2; have HG := Lib.hid hg; have HOw := Lib.hid hown; have Hbr := Lib.hid hbr; have Hfa := Lib.hid hfa
      have k1 := (w11.bl hbr).all8
      clear hg ha2 hfo2 hown hbr q1 q2 q3 q4 hfx hfy hfn hfa
      go_upto_region 5 with fail
      obtain ⟨w5, hw5⟩ : ∃ x, x = wr.alloc (.cells #[.int .i64 a.W, .int .i64 a.H, .slice a.A a.m a.c, .int .i64 a.X, .int .i64 a.Y] 60) := ⟨_, rfl⟩
      have b5 : Blk w5 wr.heap.size 60 #[.int .i64 a.W, .int .i64 a.H, .slice a.A a.m a.c, .int .i64 a.X, .int .i64 a.Y] := by rw [hw5]; exact Blk.new _ _ _
      have hb5 : Bl wr w5 := by rw [hw5]; exact (Bl.refl _).alloc _
      rw [← hw5]
      have B5 := Lib.hid b5; have Hb5 := Lib.hid (Hbr.out.trans hb5); have Hbr5 := Lib.hid hb5
      have k1 := (w11.bl Hb5.out).all8
      have k2 := (w12.bl Hb5.out).all3
      have k3 := b5.all5
      clear hw5 b5 hb5 j1 j2 j3 j4 j5
      go_wp2_with fail
      refine (Hfo2.out _ (HAr.out.bl (HW1b.out.trans Hb5.out)) (HC.out.bl (HW1b.out.trans Hb5.out))).mono ?_
      rintro e w6 ⟨rfl, hb6⟩
      have Hb6 := Lib.hid (Hb5.out.trans hb6)
      have hle6 := (Hb5.out.trans hb6).le
      have HO6 := Lib.hid (own_bl HOw.out (Hbr5.out.trans hb6))
      clear k1 k2 k3 hb6
      go_wp2_with (at_builtin; refine wpList_append_bl (w1 := w1) rfl (.tmp 15) (.tmp 20) 43 rfl 62 (.agg #[.int .i64 0, .int .i64 0, .int .i64 0]) 3 24 Tryz.underlying43 info_found rfl (by omega) w1.heap.size u5 i ((la.take i).flatMap FC) rfl (Hb6.out.alloc _) (Nat.le_refl _) (by simp; omega) (HO6.out.alloc _) (some ⟨w6.heap.size, 0, none⟩) 1 1 [.int .i64 fx, .int .i64 fy, .int .i64 fn] rfl ((Blk.new w6 _ _).reads 1 3 rfl) (by simp [Value.oneCell']) (by unfold maxLen; omega) (by omega) ?_; intro v' w8 hown8 hb8 hg8; have HOw8 := Lib.hid hown8; have Hb8 := Lib.hid hb8; clear hown8 hb8 hg8)
      exact ⟨⟨i + 1, hlt, by go_num, Hb8.out, by rw [take_snoc HG.out, List.flatMap_append, show [a].flatMap FC = FC a by simp, Hfa.out]; exact HOw8.out⟩, by simp [RowKit.intOf]; omega⟩
    · obtain rfl : i = la.length := by omega
      rw [List.take_length] at hown
      obtain ⟨A, c, rfl, hr, -⟩ := own_new hown
      have HR := Lib.hid hr
      clear hown hr
      go_wp2_with fail
      go_ret
      exact ⟨A, c, rfl, HR.out, HW1b.out.trans hbr⟩
/-- Small enough for all statements. -/
def littleB (f : Frm) : Bool := decide (f.W * f.H ≤ 40000) && (decide (f.reach ≤ 6) && decide (f.la.length ≤ 4))
set_option maxRecDepth 100000 in
set_option maxHeartbeats 1000000 in
theorem little_any (f : Frm) (W H r : Nat) (w : World) (hfit : Fits f W H r) : Calls Tryz.prog 16 #[f.val] w fun e w' => e = .returned (.bool (littleB f)) ∧ Bl w w' := by
  obtain ⟨nm, fW, fH, reach, dark, AL, ac, la, FL, fc, lf, RL, rc, lr⟩ := f
  obtain ⟨e1, e2, e3, hW, hH, hWH, hr, hla, -⟩ := hfit
  simp only at e1 e2 e3 hla
  subst e1 e2 e3
  obtain ⟨M, hM⟩ : ∃ M, M = W * H := ⟨_, rfl⟩
  have eM : (W : Int) * (H : Int) = (M : Int) := by rw [hM]; simp
  rw [← hM] at hWH
  have HX := Lib.hid (show littleB ⟨nm, W, H, r, dark, AL, ac, la, FL, fc, lf, RL, rc, lr⟩ = (decide ((M : Int) ≤ 40000) && (decide ((r : Int) ≤ 6) && decide ((la.length : Int) ≤ 4))) by
    unfold littleB
    simp only
    rw [eM, show decide (la.length ≤ 4) = decide ((la.length : Int) ≤ 4) from decide_eq_decide.2 (by omega)])
  let w1 := (w).alloc (.cells #[.string ⟨nm.toArray⟩, .int .i64 W, .int .i64 H, .int .i64 r, .int .i64 dark, .slice AL la.length ac, .slice FL lf.length fc, .slice RL lr.length rc] 26)
  have w1b : Bl w w1 := (Bl.refl w).alloc _
  have w11 : Blk w1 (w.heap.size) 26 #[.string ⟨nm.toArray⟩, .int .i64 W, .int .i64 H, .int .i64 r, .int .i64 dark, .slice AL la.length ac, .slice FL lf.length fc, .slice RL lr.length rc] := by
    have h0 := Blk.new (w) 26 #[.string ⟨nm.toArray⟩, .int .i64 W, .int .i64 H, .int .i64 r, .int .i64 dark, .slice AL la.length ac, .slice FL lf.length fc, .slice RL lr.length rc]
    exact h0
  have k1 := w11.all8
  unfold Frm.val
  clear hM
  rcases (show 40000 < (M : Int) ∨ ((M : Int) ≤ 40000 ∧ 6 < (r : Int)) ∨ ((M : Int) ≤ 40000 ∧ (r : Int) ≤ 6 ∧ 4 < (la.length : Int)) ∨ ((M : Int) ≤ 40000 ∧ (r : Int) ≤ 6 ∧ (la.length : Int) ≤ 4) by omega) with c1 | ⟨c1, c2⟩ | ⟨c1, c2, c3⟩ | ⟨c1, c2, c3⟩
  all_goals
    go_enter Tryz.func16, Tryz.ntmps16
    go_wp2_with fail
    go_ret
    exact ⟨by rw [HX.out]; first | (rw [decide_eq_false (show ¬ (M : Int) ≤ 40000 by omega)]; rfl) | (rw [decide_eq_true (show (M : Int) ≤ 40000 by omega), decide_eq_false (show ¬ (r : Int) ≤ 6 by omega)]; rfl) | (rw [decide_eq_true (show (M : Int) ≤ 40000 by omega), decide_eq_true (show (r : Int) ≤ 6 by omega), decide_eq_false (show ¬ (la.length : Int) ≤ 4 by omega)]; rfl) | (rw [decide_eq_true (show (M : Int) ≤ 40000 by omega), decide_eq_true (show (r : Int) ≤ 6 by omega), decide_eq_true (show (la.length : Int) ≤ 4 by omega)]; rfl), w1b⟩
/-! ### formed -/
def frm0 : Frm := ⟨[], 0, 0, 0, 0, none, 0, [], none, 0, [], none, 0, []⟩
def frmA : Frm := ⟨[97], 1, 1, 0, 1, none, 0, [], none, 0, [], none, 0, []⟩
theorem frmAt_bare (f : Frm) (w : World) (h1 : f.la = []) (h2 : f.lf = []) (h3 : f.lr = []) (hn : f.name.length ≤ 9223372036854775807) : FrmAt w f := by
  obtain ⟨nm, fW, fH, reach, dark, AL, ac, la, FL, fc, lf, RL, rc, lr⟩ := f
  simp only at h1 h2 h3 hn
  subst h1 h2 h3
  exact ⟨⟨⟨rfl, fun h => absurd h (Nat.lt_irrefl 0)⟩, fun a ha => by cases ha⟩, ⟨⟨rfl, fun h => absurd h (Nat.lt_irrefl 0)⟩, fun a ha => by cases ha⟩, ⟨⟨rfl, fun h => absurd h (Nat.lt_irrefl 0)⟩, fun a ha => by cases ha⟩, hn, ⟨Nat.zero_le _, Nat.zero_le _⟩, ⟨Nat.zero_le _, Nat.zero_le _⟩, ⟨Nat.zero_le _, Nat.zero_le _⟩⟩
set_option maxRecDepth 100000 in
set_option maxHeartbeats 1000000 in
theorem formed_any (w : World) (hN : NumOk w) (hC : SplitOk w) : Calls Tryz.prog 8 #[] w fun e w' => e = .returned (.bool true) ∧ Bl w w' := by
  have h1 := fun wx hN hC => checkF_any frm0 wx (frmAt_bare _ _ rfl rfl rfl (by decide)) (fun r hr => by cases hr) hN hC
  have h2 := fun wx hN hC => checkF_any frmA wx (frmAt_bare _ _ rfl rfl rfl (by decide)) (fun r hr => by cases hr) hN hC
  rw [show frm0.err = 5 by decide] at h1
  rw [show frmA.err = 9 by decide] at h2
  have H1 := Lib.hid h1; have H2 := Lib.hid h2; have HN := Lib.hid hN; have HC := Lib.hid hC
  clear h1 h2 hN hC
  go_enter Tryz.func8, Tryz.ntmps8
  go_wp2_with fail
  refine (H1.out _ HN.out HC.out).mono ?_
  rintro e w1 ⟨rfl, hb1⟩
  go_wp2_with fail
  refine (H2.out _ (HN.out.bl hb1) (HC.out.bl hb1)).mono ?_
  rintro e w2 ⟨rfl, hb2⟩
  go_wp2_with fail
  go_ret
  exact ⟨rfl, hb1.trans hb2⟩
end Go.Proofs.YtahfkahfaiidgaaGreatDoor
