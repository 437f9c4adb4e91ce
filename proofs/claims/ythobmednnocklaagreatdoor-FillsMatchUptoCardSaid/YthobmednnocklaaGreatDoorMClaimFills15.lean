/- forms.checkRule. -/
import Derived.Test.YthobmednnocklaaGreatDoorMClaimFills14
import Derived.Test.YthobmednnocklaaGreatDoorMClaimFills2
import Derived.Deep.CutRange

namespace Go.Proofs.YthobmednnocklaaGreatDoor
open Go.RowKit Go.Shelf

/-- The names that a rule has. -/
def namesOf (r : Rul) : List (List UInt8) := if twoB r.kind = true then [r.field, r.other] else [r.field]
def kindBad (fs : List Fld) (k : Int) (nm : List UInt8) : Bool := !decide (k = 1) && (marksB ((kindOf fs nm).getD 0) != decide (k = 6))
def rulTail (r : Rul) : Bool := (!twoB r.kind && !r.other.isEmpty) || ((!textK r.kind && !r.text.isEmpty) || ((decide (r.kind = 3) && !wordsB r.text) || (decide (r.kind = 6) && (int2 r.text).isNone)))
theorem rulErr_names (fs : List Fld) (r : Rul) : rulErr fs r = firstNZ [whenI (!inB r.kind 1 6) 1, whenI ((namesOf r).any fun n => decide (kindOf fs n = none)) 10, whenI ((namesOf r).any (kindBad fs r.kind)) 1, whenI (rulTail r) 2] := by
 unfold rulErr namesOf rulTail
 cases h : twoB r.kind with
 | false => simp [kindBad]
 | true =>
  have hk : r.kind = 4 ∨ r.kind = 5 := by unfold twoB at h; simpa using h
  have h1 : decide (r.kind = 1) = false := decide_eq_false (by omega)
  have h6 : decide (r.kind = 6) = false := decide_eq_false (by omega)
  simp [kindBad, h1, h6]
theorem lit_own {w : World} {e : TypeId} {xs : List Value} {base : Nat} (hb : base ≤ w.heap.size) (h : xs.length ≤ maxLen) : (w.alloc (.cells xs.toArray e)).ownsRow base e 1 (.slice (some ⟨w.heap.size, 0, none⟩) xs.length xs.length) xs.length xs := by
 refine ⟨by simp, .inr ⟨w.heap.size, xs.length, xs.toArray, rfl, hb, (MapKept.heap_alloc w _).1, Nat.le_refl _, h, by simp, by simp⟩⟩
theorem rulErr_kind {fs : List Fld} {r : Rul} (h : inB r.kind 1 6 = false) : rulErr fs r = 1 := by unfold rulErr; rw [h]; rfl
theorem rulErr_none {fs : List Fld} {r : Rul} {n : List UInt8} (h : inB r.kind 1 6 = true) (hn : n ∈ namesOf r) (hk : kindOf fs n = none) : rulErr fs r = 10 := by
 rw [rulErr_names, h, show ((namesOf r).any fun n => decide (kindOf fs n = none)) = true from List.any_eq_true.2 ⟨n, hn, decide_eq_true hk⟩]
 rfl
theorem rulErr_bad {fs : List Fld} {r : Rul} {n : List UInt8} (h : inB r.kind 1 6 = true) (ha : ∀ x ∈ namesOf r, kindOf fs x ≠ none) (hn : n ∈ namesOf r) (hk : kindBad fs r.kind n = true) : rulErr fs r = 1 := by
 rw [rulErr_names, h, show ((namesOf r).any fun n => decide (kindOf fs n = none)) = false from List.any_eq_false.2 fun x hx => by simp [ha x hx], show (namesOf r).any (kindBad fs r.kind) = true from List.any_eq_true.2 ⟨n, hn, hk⟩]
 rfl
theorem rulErr_tail {fs : List Fld} {r : Rul} (h : inB r.kind 1 6 = true) (ha : ∀ x ∈ namesOf r, kindOf fs x ≠ none) (hb : ∀ x ∈ namesOf r, kindBad fs r.kind x = false) : rulErr fs r = whenI (rulTail r) 2 := by
 rw [rulErr_names, h, show ((namesOf r).any fun n => decide (kindOf fs n = none)) = false from List.any_eq_false.2 fun x hx => by simp [ha x hx], show (namesOf r).any (kindBad fs r.kind) = false from List.any_eq_false.2 fun x hx => by rw [hb x hx]; decide]
 cases rulTail r <;> rfl

/-- The ways through the last test of a rule. -/
theorem tail_ways (o two t tk k3 wd k6 nb : Bool) : (o = false ∧ two = false) ∨
 (((o = true) ∨ (o = false ∧ two = true)) ∧ ((t = false ∧ tk = false) ∨ (((t = true) ∨ (t = false ∧ tk = true)) ∧ ((k3 = true ∧ wd = false) ∨ (k3 = true ∧ wd = true ∧ k6 = false) ∨ (k3 = true ∧ wd = true ∧ k6 = true) ∨ (k3 = false ∧ k6 = false) ∨ (k3 = false ∧ k6 = true ∧ nb = false) ∨ (k3 = false ∧ k6 = true ∧ nb = true))))) := by
 cases o <;> cases two <;> cases t <;> cases tk <;> cases k3 <;> cases wd <;> cases k6 <;> cases nb <;> decide
theorem rulTail_bools {r : Rul} {o two t tk k3 wd k6 nb : Bool} (h1 : r.other.isEmpty = o) (h2 : twoB r.kind = two) (h3 : r.text.isEmpty = t) (h4 : textK r.kind = tk) (h5 : (r.kind == 3) = k3) (h6 : wordsB r.text = wd) (h7 : (r.kind == 6) = k6) (h8 : (int2 r.text).isSome = nb) :
 rulTail r = ((!two && !o) || ((!tk && !t) || ((k3 && !wd) || (k6 && !nb)))) := by
 unfold rulTail
 subst h1 h2 h3 h4 h5 h6 h7 h8
 have e : (int2 r.text).isNone = !(int2 r.text).isSome := by cases int2 r.text <;> rfl
 rw [e]
 have e3 : decide (r.kind = 3) = (r.kind == 3) := by rw [Bool.eq_iff_iff]; simp
 have e6 : decide (r.kind = 6) = (r.kind == 6) := by rw [Bool.eq_iff_iff]; simp
 rw [e3, e6]

set_option maxRecDepth 100000 in
set_option maxHeartbeats 4000000 in
theorem checkRule_any (f : Frm) (r : Rul) (w : World) (hF : FrmAt w f) (h3 : r.text.length ≤ 1048576) (hN : NumOk w) (hC : SplitOk w) :
 Calls Tryz.prog 125 #[f.val, r.val] w fun e w' => e = .returned (.int .i64 (rulErr f.lf r)) ∧ Bl w w' := by
 obtain ⟨nm, fW, fH, reach, dark, AL, ac, la, FL, fc, lf, RL, rc, lr⟩ := f
 obtain ⟨RE, hRE⟩ : ∃ y, y = rulErr lf r := ⟨_, rfl⟩
 show Calls _ _ _ w fun e w' => e = .returned (.int .i64 (rulErr lf r)) ∧ Bl w w'
 rw [← hRE]
 have HRE := Lib.hid hRE
 let w1 := ((w).alloc (.cells #[.string ⟨nm.toArray⟩, .int .i64 fW, .int .i64 fH, .int .i64 reach, .int .i64 dark, .slice AL la.length ac, .slice FL lf.length fc, .slice RL lr.length rc] 75)).alloc (.cells #[.int .i64 r.kind, .string ⟨r.field.toArray⟩, .string ⟨r.other.toArray⟩, .string ⟨r.text.toArray⟩] 147)
 have w1b : Bl w w1 := ((Bl.refl w).alloc _).alloc _
 have w11 : Blk w1 (w.heap.size) 75 #[.string ⟨nm.toArray⟩, .int .i64 fW, .int .i64 fH, .int .i64 reach, .int .i64 dark, .slice AL la.length ac, .slice FL lf.length fc, .slice RL lr.length rc] := by
  have h0 := Blk.new (w) 75 #[.string ⟨nm.toArray⟩, .int .i64 fW, .int .i64 fH, .int .i64 reach, .int .i64 dark, .slice AL la.length ac, .slice FL lf.length fc, .slice RL lr.length rc]
  exact (h0.alloc _)
 have w12 : Blk w1 (w.heap.size + 1) 147 #[.int .i64 r.kind, .string ⟨r.field.toArray⟩, .string ⟨r.other.toArray⟩, .string ⟨r.text.toArray⟩] := by
  have h0 := Blk.new ((w).alloc (.cells #[.string ⟨nm.toArray⟩, .int .i64 fW, .int .i64 fH, .int .i64 reach, .int .i64 dark, .slice AL la.length ac, .slice FL lf.length fc, .slice RL lr.length rc] 75)) 147 #[.int .i64 r.kind, .string ⟨r.field.toArray⟩, .string ⟨r.other.toArray⟩, .string ⟨r.text.toArray⟩]
  simp only [World.size_alloc] at h0
  exact h0
 have hfa := fun (n : List UInt8) wx (hF : FrmAt wx ⟨nm, fW, fH, reach, dark, AL, ac, la, FL, fc, lf, RL, rc, lr⟩) => fieldAt_any _ n wx hF
 unfold Frm.val at hfa
 have HF := Lib.hid (hF.bl w1b); have HN := Lib.hid (hN.bl w1b); have HC := Lib.hid (hC.bl w1b); have Hfa := Lib.hid hfa
 have k1 := w11.all8
 have k2 := w12.all4
 have lw1 : w1.heap.size = w.heap.size + 2 := by simp [w1]
 have hln : lf.length ≤ 9223372036854775807 := hF.fn.2
 have HW1b := Lib.hid w1b
 unfold Frm.val Rul.val
 clear hF hN hC hRE hfa w1b
 go_enter Tryz.func125, Tryz.ntmps125
 by_cases hk1 : r.kind < 1
 · have HX := Lib.hid (rulErr_kind (fs := lf) (inB_false.2 (.inl hk1)))
   go_wp2_with fail
   go_ret
   exact ⟨by rw [HRE.out, HX.out]; rfl, HW1b.out⟩
 by_cases hk6 : 6 < r.kind
 · have HX := Lib.hid (rulErr_kind (fs := lf) (inB_false.2 (.inr hk6)))
   go_wp2_with fail
   go_ret
   exact ⟨by rw [HRE.out, HX.out]; rfl, HW1b.out⟩
 have HK := Lib.hid (inB_true.2 (show 1 ≤ r.kind ∧ r.kind ≤ 6 by omega))
 obtain ⟨ns, hns⟩ : ∃ y, y = namesOf r := ⟨_, rfl⟩
 obtain ⟨two, htwo⟩ : ∃ y, y = twoB r.kind := ⟨_, rfl⟩
 have huo := fun wx => usesOther_any r.kind wx
 rw [← htwo] at huo
 have Huo := Lib.hid huo; have Hns := Lib.hid hns; have Htwo := Lib.hid htwo
 clear huo hns htwo
 go_upto_region 4 with fail
 obtain ⟨wn, hwn⟩ : ∃ y, y = w1.alloc (.cells #[.string ⟨r.field.toArray⟩] 9) := ⟨_, rfl⟩
 have hown : wn.ownsRow w1.heap.size 9 1 (.slice (some ⟨w1.heap.size, 0, none⟩) 1 1) 1 (strCells' [r.field]) := by rw [hwn]; exact lit_own (xs := [.string ⟨r.field.toArray⟩]) (Nat.le_refl _) (by simp [maxLen])
 have hbn : Bl w1 wn := by rw [hwn]; exact (Bl.refl _).alloc _
 rw [show w.heap.size + 2 = w1.heap.size from lw1.symm, ← hwn]
 have hrd : Reads wn 1 (some ⟨w1.heap.size, 0, none⟩) 1 (strCells' [r.field]) := by rw [hwn]; exact (Blk.new w1 _ _).reads 1 1 rfl
 have HOw := Lib.hid hown; have Hbn := Lib.hid hbn; have HRd := Lib.hid hrd
 have k1 := (w11.bl hbn).all8
 have k2 := (w12.bl hbn).all4
 clear hwn hown hbn hrd lw1
 clear_value w1
 go_upto_if 25 with (go_at_call 201; refine (Huo.out _).mono ?_; rintro e w' ⟨rfl, rfl⟩)
 go_cut [5] from 26 to 31 (fun s wc => ∃ A c, s = .slice A ns.length c ∧ Reads wc 1 A ns.length (strCells' ns) ∧ Bl w1 wc)
 case first =>
  cases two with
  | false =>
   have Hn1 := Lib.hid (show ns = [r.field] by rw [Hns.out]; unfold namesOf; rw [← Htwo.out]; rfl)
   go_wp2_with fail
   go_meet
   case rel => exact ⟨_, 1, by rw [Hn1.out]; rfl, by rw [Hn1.out]; exact HRd.out, Hbn.out⟩
  | true =>
   have Hn1 := Lib.hid (show ns = [r.field, r.other] by rw [Hns.out]; unfold namesOf; rw [← Htwo.out]; rfl)
   go_wp2_with (at_builtin; refine wpList_append_one (w1 := w1) rfl (.tmp 26) (.tmp 29) 64 rfl 9 (.string ByteArray.empty) 16 Tryz.underlying64 info_str rfl w1.heap.size _ 1 (strCells' [r.field]) rfl (.string ⟨r.other.toArray⟩) rfl rfl Hbn.out (Nat.le_refl _) Hbn.out.le HOw.out (by omega) (by unfold maxLen; omega) ?_; intro v' w8 hown8 hb8 hg8; obtain ⟨A8, c8, rfl, hr8⟩ := own_reads hown8; have HR8 := Lib.hid hr8; have Hb8 := Lib.hid hb8; clear hown8 hb8 hg8 hr8)
   go_meet
   case rel => exact ⟨A8, c8, by rw [Hn1.out]; rfl, by rw [Hn1.out]; exact HR8.out, Hb8.out⟩
 case rest =>
 rename World => wd
 obtain ⟨A, c, rfl, hr, hbd⟩ := hcut
 have HR := Lib.hid hr; have Hbd := Lib.hid hbd
 have hnl : ns.length ≤ 2 := by rw [Hns.out]; unfold namesOf; split <;> simp
 have hnp : 0 < ns.length := by rw [Hns.out]; unfold namesOf; split <;> simp
 obtain ⟨ad, rfl, -⟩ := hr.2 hnp
 clear hr hbd HOw HRd
 go_wp2_with fail
 go_loopw [33] (fun u wr => ∃ i : Nat, i ≤ ns.length ∧ u = .int .i64 i ∧ Bl wd wr ∧ ∀ (j : Nat) x, j < i → ns[j]? = some x → kindOf lf x ≠ none) (fun u _ => ns.length - (RowKit.intOf u).toNat)
 case atStart => exact ⟨0, Nat.zero_le _, rfl, Bl.refl _, fun j x hj => absurd hj (Nat.not_lt_zero _)⟩
 case round =>
  obtain ⟨i, hi, rfl, hbr, hall⟩ := hrel
  have HAll := Lib.hid hall; have Hbr := Lib.hid hbr
  have k1 := (w11.bl (Hbd.out.trans hbr)).all8
  have k2 := (w12.bl (Hbd.out.trans hbr)).all4
  clear hall hbr
  by_cases hlt : i < ns.length
  · have hg : ns[i]? = some ns[i] := List.getElem?_eq_getElem hlt
    obtain ⟨x, hx⟩ : ∃ l, l = ns[i] := ⟨_, rfl⟩
    rw [← hx] at hg
    obtain ⟨ad', e1, hc⟩ := str_at (HR.out.bl Hbr.out) hg
    obtain rfl := Option.some.inj e1
    have HG := Lib.hid hg
    clear hg hx e1
    go_wp2_with fail
    refine (Hfa.out x _ (HF.out.bl (Hbd.out.trans Hbr.out))).mono ?_
    rintro e w2 ⟨ix, rfl, hix, hb2⟩
    have Hb2 := Lib.hid (Hbr.out.trans hb2)
    rcases firstG_kind hix with ⟨h0, hk⟩ | ⟨j, l, rfl, hl, hk⟩
    · have HX := Lib.hid (rulErr_none HK.out (by rw [← Hns.out]; exact List.mem_of_getElem? HG.out) hk)
      clear hix hk hb2
      go_wp2_with fail
      go_ret
      exact ⟨by rw [HRE.out, HX.out]; rfl, HW1b.out.trans (Hbd.out.trans Hb2.out)⟩
    · have HX := Lib.hid (show kindOf lf x ≠ none by rw [hk]; intro h; cases h)
      clear hix hk hb2 hl
      go_wp2_with fail
      exact ⟨⟨i + 1, hlt, by go_num, Hb2.out, fun j' x' hj hx' => by
       rcases Nat.lt_succ_iff_lt_or_eq.1 hj with h | rfl
       · exact HAll.out j' x' h hx'
       · rw [HG.out] at hx'
         obtain rfl := Option.some.inj hx'
         exact HX.out⟩, by simp [RowKit.intOf]; omega⟩
  · obtain rfl : i = ns.length := by omega
    have Hnone := Lib.hid (show ∀ x ∈ namesOf r, kindOf lf x ≠ none from fun x hx => by
     rw [← Hns.out] at hx
     obtain ⟨j, hj⟩ := List.getElem?_of_mem hx
     exact HAll.out j x (List.getElem?_eq_some_iff.1 hj).1 hj)
    have hlp : 0 < lf.length := by
     have h := Hnone.out r.field (by unfold namesOf; split <;> simp)
     cases lf with
     | nil => exact absurd rfl h
     | cons _ _ => simp
    obtain ⟨adF, hFL, -⟩ := HF.out.flds.1.2 hlp
    simp only at hFL
    subst hFL
    clear HAll
    go_wp2_with fail
    go_loopw [44] (fun u wq => ∃ i : Nat, i ≤ ns.length ∧ u = .int .i64 i ∧ Bl wd wq ∧ ∀ (j : Nat) x, j < i → ns[j]? = some x → kindBad lf r.kind x = false) (fun u _ => ns.length - (RowKit.intOf u).toNat)
    case atStart => exact ⟨0, Nat.zero_le _, rfl, Hbr.out, fun j x hj => absurd hj (Nat.not_lt_zero _)⟩
    case round =>
     clear Hbr k1 k2 hi hlt
     rename World => wr0
     obtain ⟨i, hi, rfl, hbr, hall⟩ := hrel
     rename_i wq _ _
     have HAll := Lib.hid hall; have Hbr := Lib.hid hbr
     have k1 := (w11.bl (Hbd.out.trans hbr)).all8
     have k2 := (w12.bl (Hbd.out.trans hbr)).all4
     clear hall hbr
     by_cases hlt : i < ns.length
     · have hg : ns[i]? = some ns[i] := List.getElem?_eq_getElem hlt
       obtain ⟨x, hx⟩ : ∃ l, l = ns[i] := ⟨_, rfl⟩
       rw [← hx] at hg
       obtain ⟨ad', e1, hc⟩ := str_at (HR.out.bl Hbr.out) hg
       obtain rfl := Option.some.inj e1
       have HG := Lib.hid hg
       have Hne := Lib.hid (Hnone.out x (by rw [← Hns.out]; exact List.mem_of_getElem? hg))
       clear hg hx e1
       by_cases hk1' : r.kind = 1
       · have q1 : (r.kind != 1) = false := by simp [hk1']
         have HX := Lib.hid (show kindBad lf r.kind x = false by unfold kindBad; rw [decide_eq_true hk1']; rfl)
         clear hk1'
         go_upto_region 15 with fail
         refine wp_region_flow [(true, 0), (true, 1), (true, 2), (true, 3), (true, 4), (true, 5), (true, 6), (true, 7), (true, 13), (true, 14), (true, 15), (false, 8), (true, 9), (true, 10), (true, 11), (false, 12), (true, 16), (true, 17)] (fun _ => false) (by kernel_rfl) (by kernel_rfl) (by kernel_rfl) (by kernel_rfl) ?_
         iterate 3
          apply Flow.calm2 _ _ rfl rfl
          · intro w' hb' K' hK'
            obtain ⟨hc', hf'⟩ := hb'.rule
            go_simp
            try go_ints
            exact hK'
          · intro K' hK'
            simp only [sqA]
            exact hK'
         iterate 1
          apply Flow.mv _ rfl
          · intro K' hK'
            simp only [sqA, Act.eval, arr_getD, List.getD_cons_zero, List.getD_cons_succ]
            exact hK'
         iterate 7
          first
           | (apply Flow.pass rfl (by rfl))
           | (apply Flow.calmG _ rfl (by rfl)
              · intro w' hb'
                obtain ⟨hc', hf'⟩ := hb'.rule
                go_simp
                all_goals (try rfl))
          simp only [sqA]
          try go_ints
         -- a guarded mover
         apply Flow.move rfl
         go_wp2_with fail
         first | refine ⟨fun _ => Bl.refl _, ?_⟩ | refine ⟨Bl.refl _, ?_⟩
         iterate 3
          first
           | (apply Flow.pass rfl (by rfl))
           | (apply Flow.calmG _ rfl (by rfl)
              · intro w' hb'
                obtain ⟨hc', hf'⟩ := hb'.rule
                go_simp
                all_goals (try rfl))
          simp only [sqA]
          try go_ints
         -- a guarded mover
         apply Flow.move rfl
         go_wp2_with fail
         first | refine ⟨fun _ => Bl.refl _, ?_⟩ | refine ⟨Bl.refl _, ?_⟩
         first
          | (apply Flow.pass rfl (by rfl))
          | (apply Flow.calmG _ rfl (by rfl)
             · intro w' hb'
               obtain ⟨hc', hf'⟩ := hb'.rule
               go_simp
               all_goals (try rfl))
         simp only [sqA]
         try go_ints
         iterate 1
          apply Flow.calm2 _ _ rfl rfl
          · intro w' hb' K' hK'
            obtain ⟨hc', hf'⟩ := hb'.rule
            go_simp
            try go_ints
            exact hK'
          · intro K' hK'
            simp only [sqA]
            exact hK'
         refine Flow.done ?_
         go_wp2_with fail
         exact ⟨⟨i + 1, hlt, by go_num, Hbr.out.drew, fun j' x' hj hx' => by
          rcases Nat.lt_succ_iff_lt_or_eq.1 hj with h | rfl
          · exact HAll.out j' x' h hx'
          · rw [HG.out] at hx'
            obtain rfl := Option.some.inj hx'
            exact HX.out⟩, by simp [RowKit.intOf]; omega⟩
       · have q1 : (r.kind != 1) = true := by simp [hk1']
         have HK1 := Lib.hid hk1'
         clear hk1'
         go_upto_region 15 with fail
         refine wp_region_flow [(true, 0), (true, 1), (true, 2), (true, 3), (true, 4), (true, 5), (true, 6), (true, 7), (true, 13), (true, 14), (true, 15), (false, 8), (true, 9), (true, 10), (true, 11), (false, 12), (true, 16), (true, 17)] (fun _ => false) (by kernel_rfl) (by kernel_rfl) (by kernel_rfl) (by kernel_rfl) ?_
         iterate 3
          apply Flow.calm2 _ _ rfl rfl
          · intro w' hb' K' hK'
            obtain ⟨hc', hf'⟩ := hb'.rule
            go_simp
            try go_ints
            exact hK'
          · intro K' hK'
            simp only [sqA]
            exact hK'
         iterate 1
          apply Flow.mv _ rfl
          · intro K' hK'
            simp only [sqA, Act.eval, arr_getD, List.getD_cons_zero, List.getD_cons_succ]
            exact hK'
         iterate 7
          first
           | (apply Flow.pass rfl (by rfl))
           | (apply Flow.calmG _ rfl (by rfl)
              · intro w' hb'
                obtain ⟨hc', hf'⟩ := hb'.rule
                go_simp
                all_goals (try rfl))
          simp only [sqA]
          try go_ints
         -- a guarded mover
         apply Flow.move rfl
         go_wp2_with fail
         refine (Hfa.out x _ (HF.out.bl (Hbd.out.trans Hbr.out.drew))).mono ?_
         rintro e w2 ⟨ix, rfl, hix, HB1⟩
         have hb2 : Bl wd w2 := Hbr.out.trans (Bl.ofDrew HB1)
         have Hb2 := Lib.hid hb2
         have hkk := firstG_kind hix
         clear hix
         rcases hkk with ⟨h0, hk⟩ | ⟨j, l, rfl, hl, hk⟩
         · exact absurd hk Hne.out
         have hjl := (List.getElem?_eq_some_iff.1 hl).1
         obtain ⟨ad2, e2, j1, j2, j3, j4, j5, j6, j7, j8, j9⟩ := FldsAt.at_ ((HF.out.flds).bl (Hbd.out.trans hb2)) hl
         obtain rfl := Option.some.inj e2
         have k1 := (w11.bl (Hbd.out.trans hb2)).all8
         have k2 := (w12.bl (Hbd.out.trans hb2)).all4
         have Hk := Lib.hid hk
         clear hb2 hk hl e2
         go_wp2_with fail
         refine ⟨fun _ => (by first | exact HB1 | exact Bl.refl _), ?_⟩
         iterate 3
          first
           | (apply Flow.pass rfl (by rfl))
           | (apply Flow.calmG _ rfl (by rfl)
              · intro w' hb'
                obtain ⟨hc', hf'⟩ := hb'.rule
                go_simp
                all_goals (try rfl))
          simp only [sqA]
          try go_ints
         -- a guarded mover
         apply Flow.move rfl
         go_wp2_with fail
         refine (hasMarks_any _ _).mono ?_
         rintro e w' ⟨rfl, rfl⟩
         go_wp2_with fail
         refine ⟨fun _ => (by first | exact HB2 | exact Bl.refl _), ?_⟩
         first
          | (apply Flow.pass rfl (by rfl))
          | (apply Flow.calmG _ rfl (by rfl)
             · intro w' hb'
               obtain ⟨hc', hf'⟩ := hb'.rule
               go_simp
               all_goals (try rfl))
         simp only [sqA]
         try go_ints
         iterate 1
          apply Flow.calm2 _ _ rfl rfl
          · intro w' hb' K' hK'
            obtain ⟨hc', hf'⟩ := hb'.rule
            go_simp
            try go_ints
            exact hK'
          · intro K' hK'
            simp only [sqA]
            exact hK'
         refine Flow.done ?_
         have hkb : kindBad lf r.kind x = (marksB l.kind != (r.kind == 6)) := by
          unfold kindBad
          rw [Hk.out, decide_eq_false HK1.out]
          have e6 : decide (r.kind = 6) = (r.kind == 6) := by rw [Bool.eq_iff_iff]; simp
          rw [e6]; rfl
         have Hkb := Lib.hid hkb
         clear hkb
         cases hm : marksB l.kind with
         | true =>
          cases h6 : (r.kind == 6) with
          | true =>
           have HX := Lib.hid (show kindBad lf r.kind x = false by rw [Hkb.out, hm, h6]; rfl)
           go_wp2_with fail
           exact ⟨⟨i + 1, hlt, by go_num, Hb2.out, fun j' x' hj hx' => by
            rcases Nat.lt_succ_iff_lt_or_eq.1 hj with h | rfl
            · exact HAll.out j' x' h hx'
            · rw [HG.out] at hx'
              obtain rfl := Option.some.inj hx'
              exact HX.out⟩, by simp [RowKit.intOf]; omega⟩
          | false =>
           have HX := Lib.hid (rulErr_bad HK.out Hnone.out (by rw [← Hns.out]; exact List.mem_of_getElem? HG.out) (by rw [Hkb.out, hm, h6]; rfl))
           go_wp2_with fail
           go_ret
           exact ⟨by rw [HRE.out, HX.out]; rfl, HW1b.out.trans (Hbd.out.trans Hb2.out)⟩
         | false =>
          cases h6 : (r.kind == 6) with
          | true =>
           have HX := Lib.hid (rulErr_bad HK.out Hnone.out (by rw [← Hns.out]; exact List.mem_of_getElem? HG.out) (by rw [Hkb.out, hm, h6]; rfl))
           go_wp2_with fail
           go_ret
           exact ⟨by rw [HRE.out, HX.out]; rfl, HW1b.out.trans (Hbd.out.trans Hb2.out)⟩
          | false =>
           have HX := Lib.hid (show kindBad lf r.kind x = false by rw [Hkb.out, hm, h6]; rfl)
           go_wp2_with fail
           exact ⟨⟨i + 1, hlt, by go_num, Hb2.out, fun j' x' hj hx' => by
            rcases Nat.lt_succ_iff_lt_or_eq.1 hj with h | rfl
            · exact HAll.out j' x' h hx'
            · rw [HG.out] at hx'
              obtain rfl := Option.some.inj hx'
              exact HX.out⟩, by simp [RowKit.intOf]; omega⟩
     · obtain rfl : i = ns.length := by omega
       have Hbad := Lib.hid (show ∀ x ∈ namesOf r, kindBad lf r.kind x = false from fun x hx => by
        rw [← Hns.out] at hx
        obtain ⟨j, hj⟩ := List.getElem?_of_mem hx
        exact HAll.out j x (List.getElem?_eq_some_iff.1 hj).1 hj)
       clear HAll
       have HTl := Lib.hid (HRE.out.trans (rulErr_tail HK.out Hnone.out Hbad.out))
       obtain ⟨TT, hTT⟩ : ∃ b, b = rulTail r := ⟨_, rfl⟩
       have HTT := Lib.hid hTT
       rw [← hTT] at HTl
       obtain ⟨o, ho⟩ : ∃ b, r.other.isEmpty = b := ⟨_, rfl⟩
       obtain ⟨t, ht⟩ : ∃ b, r.text.isEmpty = b := ⟨_, rfl⟩
       obtain ⟨tk, htk⟩ : ∃ b, textK r.kind = b := ⟨_, rfl⟩
       obtain ⟨k3, hk3⟩ : ∃ b, (r.kind == 3) = b := ⟨_, rfl⟩
       obtain ⟨wb, hwb⟩ : ∃ b, wordsB r.text = b := ⟨_, rfl⟩
       obtain ⟨k6, hk6'⟩ : ∃ b, (r.kind == 6) = b := ⟨_, rfl⟩
       obtain ⟨nb, hnb⟩ : ∃ b, (int2 r.text).isSome = b := ⟨_, rfl⟩
       have HT := Lib.hid (hTT.trans (rulTail_bools ho Htwo.out.symm ht htk hk3 hwb hk6' hnb))
       have hut := fun wx => usesText_any r.kind wx
       have haw := fun wx hC => areWords_any r.text wx (by omega) hC
       have hct := fun wx hN => count_any ⟨r.text.toArray⟩ wx (by rw [Lib.size_mk]; omega) hN
       rw [htk] at hut
       rw [hwb] at haw
       unfold CountRes at hct
       simp only [hnb] at hct
       have Hut := Lib.hid hut; have Haw := Lib.hid haw; have Hct := Lib.hid hct
       clear hut haw hct htk hwb hnb hTT
       go_wp2_with fail
       refine (Hct.out _ (HN.out.bl (Hbd.out.trans Hbr.out))).mono ?_
       rintro e w3 ⟨cv, rfl, -, hb3⟩
       have Hb3 := Lib.hid (Hbr.out.trans hb3)
       have k2 := (w12.bl (Hbd.out.trans Hb3.out)).all4
       clear hb3 Hbr k1
       go_upto_region 19 with fail
       go_cut [112] from 73 to 112 (fun s wc => s = .bool TT ∧ Bl wd wc)
       case first =>
        rcases tail_ways o two t tk k3 wb k6 nb with ⟨rfl, rfl⟩ | ⟨rfl | ⟨rfl, rfl⟩, ⟨rfl, rfl⟩ | ⟨rfl | ⟨rfl, rfl⟩, ⟨rfl, rfl⟩ | ⟨rfl, rfl, rfl⟩ | ⟨rfl, rfl, rfl⟩ | ⟨rfl, rfl⟩ | ⟨rfl, rfl, rfl⟩ | ⟨rfl, rfl, rfl⟩⟩⟩
        all_goals
         go_wp2_with (first | (go_at_call 201; refine (Huo.out _).mono ?_; rintro e w' ⟨rfl, rfl⟩) | (go_at_call 203; refine (Hut.out _).mono ?_; rintro e w' ⟨rfl, rfl⟩) | (go_at_call 204; refine (Haw.out _ (HC.out.bl (Hbd.out.trans Hb3.out))).mono ?_; rintro e w4 ⟨rfl, hb4⟩; have k2 := (w12.bl (Hbd.out.trans (Hb3.out.trans hb4))).all4))
         go_meet
         case rel => exact ⟨by rw [HT.out]; simp, by first | exact Hb3.out | exact Hb3.out.trans hb4⟩
       case rest =>
        rename World => wz
        obtain ⟨rfl, hbz⟩ := hcut
        have Hbz := Lib.hid hbz
        clear hbz
        cases TT with
        | true =>
         go_wp2_with fail
         go_ret
         exact ⟨by rw [HTl.out]; rfl, HW1b.out.trans (Hbd.out.trans Hbz.out)⟩
        | false =>
         go_wp2_with fail
         go_ret
         exact ⟨by rw [HTl.out]; rfl, HW1b.out.trans (Hbd.out.trans Hbz.out)⟩
end Go.Proofs.YthobmednnocklaaGreatDoor
