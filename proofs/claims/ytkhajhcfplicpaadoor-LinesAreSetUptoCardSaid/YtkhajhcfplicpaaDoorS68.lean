/- The law LinesAreSet answers true. -/
import Derived.Test.YtkhajhcfplicpaaDoorS67
import Derived.Test.YtkhajhcfplicpaaDoorS58
import Derived.Test.YtkhajhcfplicpaaDoorS36
import Derived.Test.YtkhajhcfplicpaaDoorS60
import Derived.Test.YtkhajhcfplicpaaDoorS34
import Derived.Test.YtkhajhcfplicpaaDoorS25

namespace Go.Proofs.YtkhajhcfplicpaaDoor
open Go.RowKit Go.Shelf

theorem info_bits : (Tryd.prog.info? 24).map (fun i => (i.zero, i.size, i.bytes)) = some (some (.agg #[.int .i64 0, .int .i64 0, .slice none 0 0]), 3, 40) := by kernel_rfl
def zeroPg : Pg := ⟨0, 0, none, 0, 0, []⟩
theorem pgCells_mod (n k : Nat) (hk : k < n * 3) : (pgCells (List.replicate n zeroPg))[k]? = zeroPg.cells[k % 3]? := by
  have h1 : (List.replicate n zeroPg)[k / 3]? = some zeroPg := by
    rw [List.getElem?_replicate, if_pos (by omega)]
  have h2 := pgCells_at h1 (k % 3) (by omega)
  rw [show k / 3 * 3 + k % 3 = k by omega] at h2
  exact h2
theorem pgs_made (n : Nat) : madeCells #[.int .i64 0, .int .i64 0, .slice none 0 0] (n * 3) = (pgCells (List.replicate n zeroPg)).toArray := by
  apply Array.ext_getElem?
  intro k
  have e0 : (pgCells (List.replicate n zeroPg)).toArray[k]? = (pgCells (List.replicate n zeroPg))[k]? := by simp
  rw [e0]
  clear e0
  by_cases hk : k < n * 3
  · rw [pgCells_mod n k hk]
    have h3 : k % 3 = 0 ∨ k % 3 = 1 ∨ k % 3 = 2 := by omega
    unfold madeCells
    rw [Array.getElem?_map, Array.getElem?_range, if_pos hk]
    show some (#[Value.int .i64 0, Value.int .i64 0, Value.slice none 0 0][k % 3]!) = _
    rcases h3 with h | h | h <;> rw [h] <;> rfl
  · rw [Array.getElem?_eq_none (by rw [size_madeCells]; omega), List.getElem?_eq_none (by rw [pgCells_len, List.length_replicate]; omega)]
theorem pgCells_split {ps : List Pg} {i : Nat} {p : Pg} (h : ps[i]? = some p) : pgCells ps = pgCells (ps.take i) ++ (p.cells ++ pgCells (ps.drop (i + 1))) := by
  have hlt : i < ps.length := (List.getElem?_eq_some_iff.1 h).1
  have e : ps = ps.take i ++ p :: ps.drop (i + 1) := by
    conv => lhs; rw [← List.take_append_drop i ps]
    rw [List.drop_eq_getElem_cons hlt, (List.getElem?_eq_some_iff.1 h).2]
  conv => lhs; rw [e]
  unfold pgCells
  rw [List.flatMap_append, List.flatMap_cons]
theorem pgCells_set {ps : List Pg} {i : Nat} (hi : i < ps.length) (p : Pg) : (((pgCells ps).set (i * 3) (.int .i64 p.W)).set (i * 3 + 1) (.int .i64 p.H)).set (i * 3 + 2) (.slice p.A p.m p.c) = pgCells (ps.set i p) := by
  have h1 := pgCells_split (List.getElem?_eq_getElem hi)
  have h2 : (ps.set i p)[i]? = some p := by rw [List.getElem?_set_self hi]
  have h3 := pgCells_split h2
  rw [List.take_set_of_le (Nat.le_refl i), List.drop_set_of_lt (Nat.lt_succ_self i)] at h3
  have hl : (pgCells (ps.take i)).length = i * 3 := by rw [pgCells_len, List.length_take]; congr 1; omega
  rw [h3, h1]
  rw [List.set_append_right _ _ (by omega), hl, Nat.sub_self]
  rw [List.set_append_right _ _ (by omega), hl, show i * 3 + 1 - i * 3 = 1 by omega]
  rw [List.set_append_right _ _ (by omega), hl, show i * 3 + 2 - i * 3 = 2 by omega]
  rfl
/-- The pages of the first i lines lie there. -/
def PartsAt (w : World) (q : Nat) (ls : List Ltr) (ht gap sp : Nat) (lines : List (List UInt8)) (ps : List Pg) (i : Nat) : Prop :=
  ps.length = lines.length ∧ ∀ j p s, ps[j]? = some p → lines[j]? = some s → (j < i ∧ s ≠ [] → p.W = (wideOf ls gap sp s : Int) ∧ p.H = (ht : Int) ∧ p.m = wideOf ls gap sp s * ht ∧ p.bs = setCells ls ht gap sp s ∧ Reads w 1 p.A p.m (p.bs.map .bool) ∧ ∀ ad, p.A = some ad → ad.block ≠ q) ∧ (s = [] ∨ i ≤ j → p = zeroPg)
theorem parts_start (w : World) (q : Nat) (ls : List Ltr) (ht gap sp : Nat) (lines : List (List UInt8)) : PartsAt w q ls ht gap sp lines (List.replicate lines.length zeroPg) 0 :=
  ⟨List.length_replicate, fun j p s hp _ => ⟨fun h => absurd h.1 (Nat.not_lt_zero _), fun _ => by
    rw [List.getElem?_replicate] at hp
    split at hp
    · exact (Option.some.inj hp).symm
    · cases hp⟩⟩
theorem PartsAt.bl {w w' : World} {q : Nat} {ls : List Ltr} {ht gap sp : Nat} {lines : List (List UInt8)} {ps : List Pg} {i : Nat} (h : PartsAt w q ls ht gap sp lines ps i) (hb : Bl w w') : PartsAt w' q ls ht gap sp lines ps i :=
  ⟨h.1, fun j p s hp hs => ⟨fun hj => by
    obtain ⟨a1, a2, a3, a4, a5, a6⟩ := (h.2 j p s hp hs).1 hj
    exact ⟨a1, a2, a3, a4, a5.bl hb, a6⟩, (h.2 j p s hp hs).2⟩⟩
theorem Reads.far2 {w : World} {size n : Nat} {A : Option Addr} {xs : List Value} (h : Reads w size A n xs) {p : Addr} (hn : ∀ ad, A = some ad → ad.block ≠ p.block) (u : Value) : Reads (w.setCell p u) size A n xs :=
  ⟨h.1, fun h0 => by
    obtain ⟨ad, e, hc⟩ := h.2 h0
    refine ⟨ad, e, fun j v hj => ?_⟩
    have h1 := hc j v hj
    have h2 : (ad.add j).block ≠ p.block := by rw [block_of_add]; exact hn ad e
    rw [World.cell?_setCell_other _ _ _ _ (fun e => h2 (by rw [← e]))]
    exact h1⟩
theorem PartsAt.far {w : World} {q : Nat} {ls : List Ltr} {ht gap sp : Nat} {lines : List (List UInt8)} {ps : List Pg} {i : Nat} (h : PartsAt w q ls ht gap sp lines ps i) (o : Nat) (u : Value) : PartsAt (w.setCell ⟨q, o, none⟩ u) q ls ht gap sp lines ps i :=
  ⟨h.1, fun j p s hp hs => ⟨fun hj => by
    obtain ⟨a1, a2, a3, a4, a5, a6⟩ := (h.2 j p s hp hs).1 hj
    exact ⟨a1, a2, a3, a4, a5.far2 a6 u, a6⟩, (h.2 j p s hp hs).2⟩⟩
theorem PartsAt.skip {w : World} {q : Nat} {ls : List Ltr} {ht gap sp : Nat} {lines : List (List UInt8)} {ps : List Pg} {i : Nat} (h : PartsAt w q ls ht gap sp lines ps i) (hs : lines[i]? = some []) : PartsAt w q ls ht gap sp lines ps (i + 1) :=
  ⟨h.1, fun j p s hp hj => ⟨fun hh => by
    refine (h.2 j p s hp hj).1 ⟨?_, hh.2⟩
    rcases Nat.lt_or_ge j i with h1 | h1
    · exact h1
    · have : j = i := by omega
      subst this
      rw [hs] at hj
      exact absurd (Option.some.inj hj).symm hh.2, fun hh => (h.2 j p s hp hj).2 (hh.imp id fun h1 => by omega)⟩⟩
theorem PartsAt.more {w : World} {q : Nat} {ls : List Ltr} {ht gap sp : Nat} {lines : List (List UInt8)} {ps : List Pg} {i : Nat} {s : List UInt8} (h : PartsAt w q ls ht gap sp lines ps i) (hs : lines[i]? = some s) (hn : s ≠ []) (R : Option Addr) (d : Nat)
    (hr : Reads w 1 R (wideOf ls gap sp s * ht) ((setCells ls ht gap sp s).map .bool)) (hq : ∀ ad, R = some ad → ad.block ≠ q) :
    PartsAt w q ls ht gap sp lines (ps.set i ⟨wideOf ls gap sp s, ht, R, wideOf ls gap sp s * ht, d, setCells ls ht gap sp s⟩) (i + 1) := by
  have hlt : i < ps.length := by rw [h.1]; exact (List.getElem?_eq_some_iff.1 hs).1
  refine ⟨by rw [List.length_set]; exact h.1, fun j p t hp ht' => ?_⟩
  by_cases e : j = i
  · subst e
    rw [List.getElem?_set_self hlt] at hp
    have hp' := (Option.some.inj hp).symm
    rw [hs] at ht'
    have ht2 := (Option.some.inj ht').symm
    subst hp'
    subst ht2
    exact ⟨fun _ => ⟨rfl, rfl, rfl, rfl, hr, hq⟩, fun hh => by
      rcases hh with h1 | h1
      · exact absurd h1 hn
      · omega⟩
  · rw [List.getElem?_set_ne (by omega)] at hp
    exact ⟨fun hh => (h.2 j p t hp ht').1 ⟨by omega, hh.2⟩, fun hh => (h.2 j p t hp ht').2 (hh.imp id fun h1 => by omega)⟩

/-- glyph.put of an empty page. -/
theorem put_none (W H : Int) (B : Option Addr) (n c : Nat) (x y : Int) (w : World) :
    Calls Tryd.prog 189 #[.agg #[.int .i64 W, .int .i64 H, .slice B n c], .agg #[.int .i64 0, .int .i64 0, .slice none 0 0], .int .i64 x, .int .i64 y] w fun e w' => e = .returned (.tuple #[]) ∧ Bl w w' := by
  let w2 := ((w).alloc (.cells #[.int .i64 W, .int .i64 H, .slice B n c] 24)).alloc (.cells #[.int .i64 0, .int .i64 0, .slice none 0 0] 24)
  have w2b : Bl w w2 := ((Bl.refl w).alloc _).alloc _
  have w21 : Blk w2 (w.heap.size) 24 #[.int .i64 W, .int .i64 H, .slice B n c] := by
    have h0 := Blk.new (w) 24 #[.int .i64 W, .int .i64 H, .slice B n c]
    exact (h0.alloc _)
  have w22 : Blk w2 (w.heap.size + 1) 24 #[.int .i64 0, .int .i64 0, .slice none 0 0] := by
    have h0 := Blk.new ((w).alloc (.cells #[.int .i64 W, .int .i64 H, .slice B n c] 24)) 24 #[.int .i64 0, .int .i64 0, .slice none 0 0]
    simp only [World.size_alloc] at h0
    exact h0
  have k1 := w21.all3
  have k2 := w22.all3
  go_enter Tryd.func189, Tryd.ntmps189
  go_wp2_with fail
  refine wp_loop_rounds 1 ?_
  rw [rounds_succ]
  go_wp2_with fail
  go_end0
  exact ⟨rfl, w2b⟩

/-- What is wrong with lines that a font is to set. -/
def flinesErr (fe : Int) (ls : List Ltr) (ht gap sp : Int) (lines : List (List UInt8)) (lead : Int) : Int := if fe = 0 then linesErr ls ht.toNat gap.toNat sp.toNat lines lead else fe
def linesCells (ls : List Ltr) (ht gap sp ld : Nat) (lines : List (List UInt8)) : List Bool := grid (wideTo ls gap sp lines lines.length) (highOf ht ld lines) (linesF ls ht gap sp ld lines lines.length)
def SetLinesRes (fe : Int) (ls : List Ltr) (ht gap sp : Int) (lines : List (List UInt8)) (lead : Int) (w : World) (e : Ending) (w' : World) : Prop := ∃ a b R m d err, e = .returned (.tuple #[.agg #[.int .i64 a, .int .i64 b, .slice R m d], .int .i64 err]) ∧ err = flinesErr fe ls ht gap sp lines lead ∧
    Res w.heap.size w' err (wideTo ls gap.toNat sp.toNat lines lines.length) (highOf ht.toNat lead.toNat lines) ((linesCells ls ht.toNat gap.toNat sp.toNat lead.toNat lines).map .bool) a b R m d ∧ Bl w w'
theorem setLines_bad {fe : Int} {ls : List Ltr} {ht gap sp : Int} {lines : List (List UInt8)} {lead : Int} {w w' : World} {err : Int} (h : flinesErr fe ls ht gap sp lines lead = err) (hz : err ≠ 0) (hb : Bl w w') : SetLinesRes fe ls ht gap sp lines lead w (.returned (.tuple #[.agg #[.int .i64 0, .int .i64 0, .slice none 0 0], .int .i64 err])) w' :=
  ⟨0, 0, none, 0, 0, err, rfl, h.symm, Res.zero _ _ _ _ _ hz, hb⟩

set_option maxRecDepth 100000 in
set_option maxHeartbeats 8000000 in
theorem setLines_any (nm : List UInt8) (ht gap sp : Int) (F : Option Addr) (c : Nat) (ls : List Ltr) (L : Option Addr) (lc : Nat) (lines : List (List UInt8)) (lead : Int) (w : World) (hL : LtrsAt w F ls) (hnm : nm.length ≤ 9223372036854775807) (hn : ls.length ≤ 9223372036854775807)
    (hl : Reads w 1 L lines.length (strCells' lines)) (hln : lines.length ≤ 1048576) (htl : ∀ t ∈ lines, t.length ≤ 1048576) (hv : SubOk w) :
    Calls Tryd.prog 97 #[.agg #[.string ⟨nm.toArray⟩, .int .i64 ht, .int .i64 gap, .int .i64 sp, .slice F ls.length c], .slice L lines.length lc, .int .i64 lead] w (SetLinesRes (fontErr (nameB nm) ht gap sp ls) ls ht gap sp lines lead w) := by
  let w2 := ((w).alloc (.cells #[.string ⟨nm.toArray⟩, .int .i64 ht, .int .i64 gap, .int .i64 sp, .slice F ls.length c] 67)).alloc (.cells #[.int .i64 0, .int .i64 0, .slice none 0 0] 24)
  have w2b : Bl w w2 := ((Bl.refl w).alloc _).alloc _
  have w21 : Blk w2 (w.heap.size) 67 #[.string ⟨nm.toArray⟩, .int .i64 ht, .int .i64 gap, .int .i64 sp, .slice F ls.length c] := by
    have h0 := Blk.new (w) 67 #[.string ⟨nm.toArray⟩, .int .i64 ht, .int .i64 gap, .int .i64 sp, .slice F ls.length c]
    exact (h0.alloc _)
  have w22 : Blk w2 (w.heap.size + 1) 24 #[.int .i64 0, .int .i64 0, .slice none 0 0] := by
    have h0 := Blk.new ((w).alloc (.cells #[.string ⟨nm.toArray⟩, .int .i64 ht, .int .i64 gap, .int .i64 sp, .slice F ls.length c] 67)) 24 #[.int .i64 0, .int .i64 0, .slice none 0 0]
    simp only [World.size_alloc] at h0
    exact h0
  have lw2 : w2.heap.size = w.heap.size + 2 := by simp [w2]
  have HL := Lib.hid (hL.bl w2b)
  have HV := Lib.hid (hv.bl w2b); have HLn := Lib.hid (hl.bl w2b); have HTl := Lib.hid htl
  obtain ⟨fe, hfe⟩ : ∃ x, x = fontErr (nameB nm) ht gap sp ls := ⟨_, rfl⟩
  have hck := check_any nm ht gap sp F c ls w2 (hL.bl w2b) hnm hn
  rw [← hfe] at hck ⊢
  have Hck := Lib.hid hck; have HFe := Lib.hid hfe
  have k1 := w21.all5
  clear hL hck hfe hv hl htl
  go_enter Tryd.func97, Tryd.ntmps97
  go_wp2_with fail
  refine Hck.out.mono ?_
  rintro e w3 ⟨rfl, hb3⟩
  clear_value w2
  clear k1 Hck
  by_cases hz : fe = 0
  case neg =>
    have hq : (fe != 0) = true := by simp [hz]
    have hq2 : (fe == 0) = false := by simp [hz]
    have HZ := Lib.hid hz
    have HE := Lib.hid (show flinesErr fe ls ht gap sp lines lead = fe from if_neg hz)
    have kz := (w22.bl hb3).all3
    clear hz
    go_wp2_with fail
    refine bodyPost_ret (v := .tuple #[.agg #[.int .i64 0, .int .i64 0, .slice none 0 0], .int .i64 fe]) (by simp [results, Tryd.results97, go_sem, kz]) rfl (setLines_bad HE.out HZ.out ?_)
    exact (((w2b.trans hb3).setCell (by simp) _).setCell (by simp) _).setCell (by simp) _
  case pos =>
    subst hz
    obtain ⟨ht', gap', sp', rfl, rfl, rfl, hR⟩ := right_of HFe.out.symm
    obtain ⟨adl, rfl⟩ := some_at HL.out hR.many.1
    have HR := Lib.hid hR
    have hh := hR.ht1
    have HE0 := Lib.hid (show flinesErr 0 ls ht' gap' sp' lines lead = linesErr ls ht' gap' sp' lines lead by unfold flinesErr; rw [if_pos rfl]; rfl)
    clear hR
    by_cases c1 : lead < 0
    · have HE := Lib.hid (show flinesErr 0 ls ht' gap' sp' lines lead = 3 by
        have h : inB lead 0 64 = false := inB_false.2 (.inl c1)
        have h0 : linesErr0 lines lead = 3 := by unfold linesErr0; rw [h]; rfl
        rw [HE0.out, linesErr_first (by rw [h0]; decide), h0])
      have kz := (w22.bl hb3).all3
      go_wp2_with fail
      refine bodyPost_ret (v := .tuple #[.agg #[.int .i64 0, .int .i64 0, .slice none 0 0], .int .i64 3]) (by simp [results, Tryd.results97, go_sem, kz]) rfl (setLines_bad HE.out (by decide) ?_)
      exact (((w2b.trans hb3).setCell (by simp) _).setCell (by simp) _).setCell (by simp) _
    · by_cases c2 : 64 < lead
      · have HE := Lib.hid (show flinesErr 0 ls ht' gap' sp' lines lead = 3 by
          have h : inB lead 0 64 = false := inB_false.2 (.inr c2)
          have h0 : linesErr0 lines lead = 3 := by unfold linesErr0; rw [h]; rfl
          rw [HE0.out, linesErr_first (by rw [h0]; decide), h0])
        have kz := (w22.bl hb3).all3
        go_wp2_with fail
        refine bodyPost_ret (v := .tuple #[.agg #[.int .i64 0, .int .i64 0, .slice none 0 0], .int .i64 3]) (by simp [results, Tryd.results97, go_sem, kz]) rfl (setLines_bad HE.out (by decide) ?_)
        exact (((w2b.trans hb3).setCell (by simp) _).setCell (by simp) _).setCell (by simp) _
      · have hin : inB lead 0 64 = true := inB_true.2 ⟨by omega, by omega⟩
        have hct := strContains_any L lc lines 188 #[] _ w3 (HLn.out.bl hb3) (setLines1_tests w3 lines) (by omega)
        obtain ⟨al, hal⟩ : ∃ x, x = decide (∃ l ∈ lines, (!l.isEmpty) = true) := ⟨_, rfl⟩
        rw [← hal] at hct
        have Hct := Lib.hid hct; have HAl := Lib.hid hal; have HIn := Lib.hid hin
        clear hct hal hin
        go_wp2_with fail
        refine Hct.out.mono ?_
        rintro e w4 ⟨rfl, hb34⟩
        have hb4 := hb3.trans hb34
        clear Hct
        cases hal : al with
        | false =>
          have HE := Lib.hid (show flinesErr 0 ls ht' gap' sp' lines lead = 9 by
            have h0 : linesErr0 lines lead = 9 := by
              unfold linesErr0 anyLine
              rw [HIn.out, ← HAl.out, hal]
              rfl
            rw [HE0.out, linesErr_first (by rw [h0]; decide), h0])
          have kz := (w22.bl hb4).all3
          subst hal
          go_wp2_with fail
          refine bodyPost_ret (v := .tuple #[.agg #[.int .i64 0, .int .i64 0, .slice none 0 0], .int .i64 9]) (by simp [results, Tryd.results97, go_sem, kz]) rfl (setLines_bad HE.out (by decide) ?_)
          exact (((w2b.trans hb4).setCell (by simp) _).setCell (by simp) _).setCell (by simp) _
        | true =>
          by_cases c3 : 200 < lines.length
          · have HE := Lib.hid (show flinesErr 0 ls ht' gap' sp' lines lead = 4 by
              have h0 : linesErr0 lines lead = 4 := by
                unfold linesErr0 anyLine
                rw [HIn.out, ← HAl.out, hal, decide_eq_true c3]
                rfl
              rw [HE0.out, linesErr_first (by rw [h0]; decide), h0])
            have kz := (w22.bl hb4).all3
            have hc3 : (200 : Int) < (lines.length : Int) := by omega
            subst hal
            go_wp2_with fail
            refine bodyPost_ret (v := .tuple #[.agg #[.int .i64 0, .int .i64 0, .slice none 0 0], .int .i64 4]) (by simp [results, Tryd.results97, go_sem, kz]) rfl (setLines_bad HE.out (by decide) ?_)
            exact (((w2b.trans hb4).setCell (by simp) _).setCell (by simp) _).setCell (by simp) _
          · have hc3 : ¬ ((200 : Int) < (lines.length : Int)) := by omega
            obtain ⟨e0, he0⟩ : ∃ x, x = linesErr0 lines lead := ⟨_, rfl⟩
            have HE00 := Lib.hid he0
            have HZ0 := Lib.hid (show e0 = 0 by
              rw [he0]
              unfold linesErr0 anyLine
              rw [HIn.out, ← HAl.out, hal, decide_eq_false c3]
              rfl)
            subst hal
            clear he0
            obtain ⟨inf, hinf, hinf2⟩ := Option.map_eq_some_iff.1 info_bits
            simp only [Prod.mk.injEq] at hinf2
            obtain ⟨hf1, hf2, hf3⟩ := hinf2
            have hmk := run_make (P := Tryd.prog) w4 69 24 inf _ Tryd.underlying69 hinf hf1 .i64 .i64 lines.length lines.length (by omega) (Int.le_refl _) (by rw [hf3]; omega) (by omega)
            simp only [Int.toNat_natCast, hf2] at hmk
            rw [show madeCells (Value.agg #[.int .i64 0, .int .i64 0, .slice none 0 0]).cells (lines.length * 3) = (pgCells (List.replicate lines.length zeroPg)).toArray from pgs_made _] at hmk
            clear hinf hf1 hf2 hf3
            obtain ⟨ld, hld⟩ := Int.eq_ofNat_of_zero_le (show 0 ≤ lead by omega)
            subst hld
            have hld2 : ld ≤ 64 := by omega
            go_wp2_with fail
            obtain ⟨w5, hw5⟩ : ∃ x, x = w4.alloc (.cells (pgCells (List.replicate lines.length zeroPg)).toArray 24) := ⟨_, rfl⟩
            obtain ⟨q, hq⟩ : ∃ x, x = w4.heap.size := ⟨_, rfl⟩
            have bq5 : Blk w5 q 24 (pgCells (List.replicate lines.length zeroPg)).toArray := by rw [hw5, hq]; exact Blk.new _ _ _
            have hb45 : Bl w4 w5 := by rw [hw5]; exact (Bl.refl _).alloc _
            have hq4 : w4.heap.size ≤ q := by omega
            have hq2 : w2.heap.size ≤ q := by have := hb4.le; omega
            rw [← hw5, ← hq]
            have P0 := Lib.hid (parts_start w5 q ls ht' gap' sp' lines)
            clear hw5 hq hmk c1 c2
            go_loopw [47, 10] (fun u v wr => ∃ (i : Nat) (ps : List Pg), i ≤ lines.length ∧ u = .int .i64 i ∧ v = .int .i64 (wideTo ls gap' sp' lines i) ∧ Bl w4 wr ∧ Blk wr q 24 (pgCells ps).toArray ∧ Hid (PartsAt wr q ls ht' gap' sp' lines ps i) ∧ Hid ((linesTo ls ht' gap' sp' e0 lines i).1 = 0)) (fun u _ _ => lines.length - (RowKit.intOf u).toNat)
            case atStart => exact ⟨0, List.replicate lines.length zeroPg, Nat.zero_le _, rfl, rfl, hb45, bq5, P0, HZ0⟩
            case round =>
              obtain ⟨i, ps, hi, rfl, rfl, hbr, hbq, hpa, hl0⟩ := hrel
              have hb2r := hb4.trans hbr
              have k1 := (w21.bl hb2r).all5
              have hpl := hpa.out.1
              by_cases hlt : i < lines.length
              · have hg : lines[i]? = some lines[i] := List.getElem?_eq_getElem hlt
                obtain ⟨s, hs⟩ : ∃ s, s = lines[i] := ⟨_, rfl⟩
                rw [← hs] at hg
                obtain ⟨ad, rfl, c0⟩ := str_at (HLn.out.bl hb2r) hg
                have hst := linesTo_succ (ls := ls) (ht := ht') (gap := gap') (sp := sp') (e0 := e0) hg
                have hsc := wideTo_succ (ls := ls) (gap := gap') (sp := sp') hg
                by_cases hse : s = []
                · have hem : s.isEmpty = true := by rw [hse]; rfl
                  have HL0 := Lib.hid (show (linesTo ls ht' gap' sp' e0 lines (i + 1)).1 = 0 by rw [hst, hse, lineStep_nil]; exact hl0.out)
                  have HSc := Lib.hid (show wideTo ls gap' sp' lines (i + 1) = wideTo ls gap' sp' lines i by rw [hsc, hse, wideOf_nil]; omega)
                  have HP := Lib.hid (hpa.out.skip (by rw [hg, hse]))
                  have HBq := Lib.hid hbq
                  subst hse
                  clear hst hsc hg hs hbq hpa hl0
                  go_wp2_with fail
                  exact ⟨⟨i + 1, ps, hlt, by go_num, by rw [HSc.out], hbr, HBq.out, HP, HL0⟩, by simp [RowKit.intOf] <;> omega⟩
                · have hem : s.isEmpty = false := by cases s with | nil => exact absurd rfl hse | cons a t => rfl
                  have hse2 := lineStep_set (ls := ls) (ht := ht') (gap := gap') (sp := sp') hl0.out hse
                  rw [← hst] at hse2
                  have hsg := setG_any nm ht' gap' sp' adl c ls s wr (HL.out.bl hb2r) HR.out (Nat.le_trans (HTl.out s (List.mem_of_getElem? hg)) (by decide)) (HV.out.bl hb2r)
                  unfold SetGRes at hsg
                  obtain ⟨E, hE⟩ : ∃ E, E = setErr ls ht' gap' sp' s := ⟨_, rfl⟩
                  rw [← hE] at hse2
                  simp only [← hE] at hsg
                  have Hsg := Lib.hid hsg; have HE2 := Lib.hid hse2; have HSc := Lib.hid hsc; have HG := Lib.hid hg; have HNe := Lib.hid hse
                  have HBr := Lib.hid hbr; have HBq := Lib.hid hbq
                  have hq3 : w2.heap.size ≤ wr.heap.size := hb2r.le
                  clear hst hsc hg hs hse2 hse hsg hE hl0
                  go_wp2_with fail
                  refine Hsg.out.mono ?_
                  rintro e w6 ⟨a, b, R, m, d, rfl, hres, hb6⟩
                  have HRes := Lib.hid hres
                  have hbq6 := (HBq.out.bl hb6)
                  have hq6 : q < wr.heap.size := HBq.out.lt
                  clear hres Hsg hbq
                  have k2 := hbq6
                  have hb26 := hb2r.trans hb6
                  have hip : i < ps.length := by omega
                  have kc : ∀ j v, j < 3 → ps[i].cells[j]? = some v → w6.cell? ⟨q, i * 3 + j, none⟩ = some v := fun j v hj hv => by
                    rw [hbq6.cell, List.getElem?_toArray, pgCells_at (List.getElem?_eq_getElem hip) j hj]
                    exact hv
                  have c0' := kc 0 _ (by omega) rfl
                  have c1' := kc 1 _ (by omega) rfl
                  have c2' := kc 2 _ (by omega) rfl
                  rw [Nat.add_zero] at c0'
                  have hfz := hbq6.frozen
                  clear k1 kc
                  have k1 := (w21.bl hb26).all5
                  go_upto_region 18 with fail
                  obtain ⟨w7, hw7⟩ : ∃ x, x = ((w6.setCell ⟨q, i * 3, none⟩ (.int .i64 a)).setCell ⟨q, i * 3 + 1, none⟩ (.int .i64 b)).setCell ⟨q, i * 3 + 2, none⟩ (.slice R m d) := ⟨_, rfl⟩
                  have hb47 : Bl w4 w7 := by rw [hw7]; exact ((((HBr.out.trans hb6).setCell hq4 _).setCell hq4 _).setCell hq4 _)
                  have hb27 := hb4.trans hb47
                  have hbq7 : Blk w7 q 24 (((((pgCells ps).set (i * 3) (.int .i64 a)).set (i * 3 + 1) (.int .i64 b)).set (i * 3 + 2) (.slice R m d)).toArray) := by
                    rw [hw7]
                    have h := (((hbq6.set_ (i * 3) (.int .i64 a)).set_ (i * 3 + 1) (.int .i64 b)).set_ (i * 3 + 2) (.slice R m d))
                    simpa only [List.setIfInBounds_toArray] using h
                  have HPa : ∀ ps' j, PartsAt w6 q ls ht' gap' sp' lines ps' j → PartsAt w7 q ls ht' gap' sp' lines ps' j := fun ps' j h => by rw [hw7]; exact ((h.far _ _).far _ _).far _ _
                  rw [← hw7]
                  have HPA := Lib.hid HPa; have HQ7 := Lib.hid hbq7
                  clear k1 k2 c0' c1' c2' hfz hw7 hbq6 hbq7 HPa
                  by_cases hz : E = 0
                  · obtain ⟨A', c'', he, hrd, hrn⟩ := HRes.out.1 hz
                    simp only [Value.agg.injEq, Array.mk.injEq, List.cons.injEq, Value.int.injEq, Value.slice.injEq, true_and, and_true] at he
                    obtain ⟨rfl, rfl, rfl, rfl, rfl⟩ := he
                    have hps := pgCells_set hip (⟨wideOf ls gap' sp' s, ht', R, wideOf ls gap' sp' s * ht', d, setCells ls ht' gap' sp' s⟩ : Pg)
                    have hq7 := HQ7.out
                    rw [show (((pgCells ps).set (i * 3) (.int .i64 (wideOf ls gap' sp' s : Int))).set (i * 3 + 1) (.int .i64 (ht' : Int))).set (i * 3 + 2) (.slice R (wideOf ls gap' sp' s * ht') d) = pgCells (ps.set i ⟨wideOf ls gap' sp' s, ht', R, wideOf ls gap' sp' s * ht', d, setCells ls ht' gap' sp' s⟩) from hps] at hq7
                    have HP := Lib.hid (HPA.out _ _ ((hpa.out.bl hb6).more HG.out HNe.out R d hrd (fun ad h => by have := hrn ad h; omega)))
                    have HL0 := Lib.hid (HE2.out.trans hz)
                    have c0' : w7.cell? ⟨q, i * 3, none⟩ = some (.int .i64 (wideOf ls gap' sp' s : Int)) := by
                      rw [hq7.cell, List.getElem?_toArray]
                      exact pgCells_at (List.getElem?_set_self hip) 0 (by omega)
                    have HQ8 := Lib.hid hq7
                    subst hz
                    obtain ⟨V, hV⟩ : ∃ V, V = wideOf ls gap' sp' s := ⟨_, rfl⟩
                    obtain ⟨U, hU⟩ : ∃ U, U = wideTo ls gap' sp' lines i := ⟨_, rfl⟩
                    rw [← hV] at c0' ⊢
                    rw [← hU]
                    have HSc2 := HSc.out
                    rw [← hV, ← hU] at HSc2
                    have HSc3 := Lib.hid HSc2
                    have hmx : max (U : Int) (V : Int) = ((max U V : Nat) : Int) := by omega
                    clear hrd hrn hps hq7 hpa HPA HRes HSc2 hV hU HQ7
                    go_wp2_with fail
                    exact ⟨⟨i + 1, _, hlt, by go_num, by rw [HSc3.out], hb47, HQ8.out, HP, HL0⟩, by simp [RowKit.intOf] <;> omega⟩
                  · have hq : (E != 0) = true := by simp [hz]
                    have hq2' : (E == 0) = false := by simp [hz]
                    have HZ := Lib.hid hz
                    have HE := Lib.hid (show flinesErr 0 ls ht' gap' sp' lines (ld : Int) = E by
                      rw [HE0.out, linesErr_at (i := i + 1) (by omega) (by rw [← HE00.out, HE2.out]; exact hz), ← HE00.out, HE2.out])
                    have kz := (w22.bl hb27).all3
                    clear hz hpa HPA HRes HQ7
                    go_wp2_with fail
                    refine bodyPost_ret (v := .tuple #[.agg #[.int .i64 0, .int .i64 0, .slice none 0 0], .int .i64 E]) (by simp [results, Tryd.results97, go_sem, kz]) rfl (setLines_bad HE.out HZ.out ?_)
                    exact (((w2b.trans hb27).setCell (by simp) _).setCell (by simp) _).setCell (by simp) _
              · obtain rfl : i = lines.length := by omega
                have hend := linesErr_end (ls := ls) (ht := ht') (gap := gap') (sp := sp') (lines := lines) (lead := (ld : Int)) (by rw [← HE00.out]; exact hl0.out)
                have hn1 : 1 ≤ lines.length := by
                  rcases Nat.eq_zero_or_pos lines.length with h | h
                  · have h1 := hend.2
                    rw [h] at h1
                    exact absurd h1 (by show ¬ 1 ≤ 0; omega)
                  · exact h
                obtain ⟨n, hn⟩ : ∃ n, lines.length = n + 1 := ⟨lines.length - 1, by omega⟩
                obtain ⟨W, hW⟩ : ∃ W, W = wideTo ls gap' sp' lines lines.length := ⟨_, rfl⟩
                obtain ⟨H, hH⟩ : ∃ H, H = highOf ht' ld lines := ⟨_, rfl⟩
                obtain ⟨M1, hM1⟩ : ∃ m, m = (n + 1) * ht' := ⟨_, rfl⟩
                obtain ⟨M2, hM2⟩ : ∃ m, m = n * ld := ⟨_, rfl⟩
                have hHM : H = M1 + M2 := by rw [hH, hM1, hM2]; unfold highOf; rw [hn]; rfl
                have hc1 : (lines.length : Int) * (ht' : Int) = (M1 : Int) := by rw [hM1, Int.natCast_mul, hn]
                have hc4 : (n : Int) * (ld : Int) = (M2 : Int) := by rw [hM2, Int.natCast_mul]
                have hc3 : (lines.length : Int) - 1 = (n : Int) := by omega
                have hm1 : M1 ≤ 12800 := by rw [hM1]; exact Nat.mul_le_mul (show n + 1 ≤ 200 by omega) hh.2
                have hm2 : M2 ≤ 12800 := by rw [hM2]; exact Nat.mul_le_mul (show n ≤ 200 by omega) hld2
                have e1 : ((H : Nat) : Int) = ((n + 1 : Nat) : Int) * (ht' : Int) + (n : Int) * (ld : Int) := by rw [hHM, Int.natCast_add, hM1, hM2, Int.natCast_mul, Int.natCast_mul]
                have HE := Lib.hid (show flinesErr 0 ls ht' gap' sp' lines (ld : Int) = sizeErr (W : Int) (H : Int) by
                  rw [HE0.out, hend.1, hW, e1, hn, Nat.add_sub_cancel])
                rw [← hW]
                have HW := Lib.hid hW; have HH := Lib.hid hH; have HHM := Lib.hid hHM; have HN := Lib.hid hn
                have HPA := hpa; have HQ := Lib.hid hbq; have HBr := Lib.hid hbr
                have hr2 : w2.heap.size ≤ wr.heap.size := hb2r.le
                have hW1 : 1 ≤ W := by rw [hW]; exact hend.2
                have HL1 := hl0
                clear e1 hend hW hH hM1 hM2 hHM hn hpa hl0 hbq
                by_cases hse : sizeErr (W : Int) (H : Int) = 0
                case neg =>
                  have hq : (sizeErr (W : Int) (H : Int) != 0) = true := by simp [hse]
                  have hq2 : (sizeErr (W : Int) (H : Int) == 0) = false := by simp [hse]
                  have Hb := Lib.hid (blank_bad (W : Int) (H : Int) wr hse)
                  have HZ := Lib.hid hse
                  clear hse
                  go_wp2_with fail
                  rw [show (M1 : Int) + (M2 : Int) = (H : Int) by rw [HHM.out]; omega]
                  refine Hb.out.mono ?_
                  rintro e w6 ⟨rfl, hb6⟩
                  go_upto_region 23 with fail
                  obtain ⟨w7, hw7⟩ : ∃ x, x = w6.alloc (.cells #[.int .i64 0, .int .i64 0, .slice none 0 0] 24) := ⟨_, rfl⟩
                  have hb67 : Bl w6 w7 := by rw [hw7]; exact (Bl.refl _).alloc _
                  rw [← hw7]
                  clear hw7
                  have hb7 := hb2r.trans (hb6.trans hb67)
                  have kz := (w22.bl hb7).all3
                  clear k1
                  go_wp2_with fail
                  refine bodyPost_ret (v := .tuple #[.agg #[.int .i64 0, .int .i64 0, .slice none 0 0], .int .i64 (sizeErr (W : Int) (H : Int))]) (by simp [results, Tryd.results97, go_sem, kz]) rfl (setLines_bad HE.out HZ.out ?_)
                  exact (((w2b.trans hb7).setCell (by simp) _).setCell (by simp) _).setCell (by simp) _
                case pos =>
                  have hsz := sizeErr_zero hse
                  have hb := blank_new W H wr hse
                  have hWH : W * H ≤ 1048576 := by
                    have h1 := hsz.2.2.2.2
                    have h2 : ((W * H : Nat) : Int) = (W : Int) * (H : Int) := by simp
                    omega
                  have hW4 : W ≤ 4000 := by omega
                  have hH4 : 1 ≤ H ∧ H ≤ 4000 := by omega
                  have Hb := Lib.hid hb; have HZ := Lib.hid hse
                  clear hse hb hsz
                  go_wp2_with fail
                  rw [show (M1 : Int) + (M2 : Int) = (H : Int) by rw [HHM.out]; omega]
                  refine Hb.out.mono ?_
                  rintro e w6 ⟨g, rfl, hg3, hbg, hb6⟩
                  go_upto_region 23 with fail
                  obtain ⟨w7, hw7⟩ : ∃ x, x = w6.alloc (.cells #[.int .i64 W, .int .i64 H, .slice (some ⟨g, 0, none⟩) (W * H) (W * H)] 24) := ⟨_, rfl⟩
                  obtain ⟨p, hp⟩ : ∃ x, x = w6.heap.size := ⟨_, rfl⟩
                  have bp7 : Blk w7 p 24 #[.int .i64 W, .int .i64 H, .slice (some ⟨g, 0, none⟩) (W * H) (W * H)] := by rw [hw7, hp]; exact Blk.new _ _ _
                  have hb67 : Bl w6 w7 := by rw [hw7]; exact (Bl.refl _).alloc _
                  have hpg : p ≠ g := by have := hbg.lt; omega
                  have hpr : wr.heap.size ≤ p := by have := hb6.le; omega
                  rw [← hw7, ← hp]
                  clear hw7 hp
                  have hb17 := hb6.trans hb67
                  have bg7 : Blk w7 g 4 (tabB (W * H) fun k => linesF ls ht' gap' sp' ld lines 0 (k % W) (k / W)) := hbg.bl hb67
                  have HG := Lib.hid bg7; have HBp := Lib.hid bp7
                  clear hbg bg7 bp7 k1 Hb
                  have hb27 := hb2r.trans hb17
                  go_wp2_with fail
                  go_loopw [97] (fun u wq => ∃ i : Nat, i ≤ lines.length ∧ u = .int .i64 i ∧ Bl wr wq ∧ Blk wq p 24 #[.int .i64 W, .int .i64 H, .slice (some ⟨g, 0, none⟩) (W * H) (W * H)] ∧ Hid (Blk wq g 4 (tabB (W * H) fun k => linesF ls ht' gap' sp' ld lines i (k % W) (k / W)))) (fun u _ => lines.length - (RowKit.intOf u).toNat)
                  case atStart => exact ⟨0, Nat.zero_le _, rfl, hb17, HBp.out, HG⟩
                  case round =>
                    rename World => wq
                    obtain ⟨i, hi, rfl, hbq, hbp, hbg⟩ := hrel
                    have hb2q := hb2r.trans hbq
                    have k1 := (w21.bl hb2q).all5
                    have k7 := hbp.all3
                    by_cases hlt : i < lines.length
                    · have hg : lines[i]? = some lines[i] := List.getElem?_eq_getElem hlt
                      obtain ⟨s, hs⟩ : ∃ s, s = lines[i] := ⟨_, rfl⟩
                      rw [← hs] at hg
                      have hip : i < ps.length := by rw [hpl]; exact hlt
                      obtain ⟨pg, hpg2⟩ : ∃ pg, ps[i]? = some pg := ⟨_, List.getElem?_eq_getElem hip⟩
                      have hbqq := HQ.out.bl hbq
                      have kc : ∀ j v, j < 3 → pg.cells[j]? = some v → wq.cell? ⟨q, i * 3 + j, none⟩ = some v := fun j v hj hv => by
                        rw [hbqq.cell, List.getElem?_toArray, pgCells_at hpg2 j hj]
                        exact hv
                      have c0' := kc 0 _ (by omega) rfl
                      have c1' := kc 1 _ (by omega) rfl
                      have c2' := kc 2 _ (by omega) rfl
                      rw [Nat.add_zero] at c0'
                      have hpart := HPA.out.2 i pg s hpg2 hg
                      clear kc hbqq
                      go_upto_region 28 with fail
                      obtain ⟨w8, hw8⟩ : ∃ x, x = wq.alloc (.cells #[.int .i64 pg.W, .int .i64 pg.H, .slice pg.A pg.m pg.c] 24) := ⟨_, rfl⟩
                      obtain ⟨o, ho⟩ : ∃ x, x = wq.heap.size := ⟨_, rfl⟩
                      have bo8 : Blk w8 o 24 #[.int .i64 pg.W, .int .i64 pg.H, .slice pg.A pg.m pg.c] := by rw [hw8, ho]; exact Blk.new _ _ _
                      have hbq8 : Bl wq w8 := by rw [hw8]; exact (Bl.refl _).alloc _
                      rw [← hw8, ← ho]
                      clear hw8 ho k1 k7 c0' c1' c2'
                      have hb28 := hb2q.trans hbq8
                      have k1 := (w21.bl hb28).all5
                      have hbp8 := hbp.bl hbq8
                      have k7 := hbp8.all3
                      obtain ⟨Y, hY⟩ : ∃ Y, Y = i * (ht' + ld) := ⟨_, rfl⟩
                      have hYI : (i : Int) * ((ht' : Int) + (ld : Int)) = (Y : Int) := by rw [hY, Int.natCast_mul, Int.natCast_add]
                      have hin1 : i * (ht' + ld) ≤ n * (ht' + ld) := Nat.mul_le_mul_right _ (by have := HN.out; omega)
                      rw [Nat.mul_add n, ← hY] at hin1
                      have hHe := HH.out
                      unfold highOf at hHe
                      rw [HN.out, Nat.add_mul, Nat.add_sub_cancel] at hHe
                      have hYH : Y + ht' ≤ H := by omega
                      have HG8 := Lib.hid (hbg.out.bl hbq8)
                      have HBp8 := Lib.hid hbp8; have HBr8 := Lib.hid (hbq.trans hbq8)
                      have hplt := hbp8.lt
                      by_cases hse : s = []
                      · have hz := hpart.2 (.inl hse)
                        have HCg := Lib.hid (show tabB (W * H) (fun k => linesF ls ht' gap' sp' ld lines i (k % W) (k / W)) = tabB (W * H) (fun k => linesF ls ht' gap' sp' ld lines (i + 1) (k % W) (k / W)) from tabB_congr fun k _ => (linesF_skip (by rw [hg, hse]) _ _).symm)
                        subst hz
                        have k9 := bo8.all3
                        have Hput := Lib.hid (put_none (W : Int) (H : Int) (some ⟨g, 0, none⟩) (W * H) (W * H) 0 (Y : Int) w8)
                        clear hpart hg hs hse hY hHe hbg hpg2 hin1
                        go_wp2_with fail
                        refine Hput.out.mono ?_
                        rintro e w9 ⟨rfl, hb9⟩
                        have HG9 := Lib.hid (by have h := HG8.out.bl hb9; rw [HCg.out] at h; exact h)
                        clear Hput
                        go_wp2_with fail
                        exact ⟨⟨i + 1, hlt, by go_num, HBr8.out.trans hb9, HBp8.out.bl hb9, HG9⟩, by simp [RowKit.intOf] <;> omega⟩
                      · obtain ⟨a1, a2, a3, a4, a5, -⟩ := hpart.1 ⟨hlt, hse⟩
                        obtain ⟨pW, pH, pA, pm, pc, pbs⟩ := pg
                        have a1 : pW = _ := a1
                        have a2 : pH = _ := a2
                        have a3 : pm = _ := a3
                        have a4 : pbs = _ := a4
                        subst a1
                        subst a2
                        subst a3
                        subst a4
                        have k9 := bo8.all3
                        have hVW := wideTo_ge (ls := ls) (gap := gap') (sp := sp') (List.mem_of_getElem? hg)
                        rw [← HW.out] at hVW
                        have hV1 : 1 ≤ wideOf ls gap' sp' s := by
                          have h1 := (linesTo_all (ls := ls) (ht := ht') (gap := gap') (sp := sp') (e0 := e0) lines.length HL1.out).2 i s hlt hg hse
                          have h2 := (sizeErr_zero (setErr_zero h1).2).1
                          omega
                        have hput := put_any W H (wideOf ls gap' sp' s) ht' 0 Y g (W * H) pA pc (setCells ls ht' gap' sp' s) (fun k => linesF ls ht' gap' sp' ld lines i (k % W) (k / W)) wr w8 HBr8.out hg3 HG8.out a5 hW4 hH4.2 hWH (by omega) hYH hV1
                        have hcg : tabB (W * H) (putF (fun k => linesF ls ht' gap' sp' ld lines i (k % W) (k / W)) (setCells ls ht' gap' sp' s) (wideOf ls gap' sp' s) ht' 0 Y W) = tabB (W * H) (fun k => linesF ls ht' gap' sp' ld lines (i + 1) (k % W) (k / W)) := tabB_congr fun k _ => by rw [hY]; exact putF_line hg k
                        rw [hcg, show ((0 : Nat) : Int) = 0 from rfl] at hput
                        have Hput := Lib.hid hput
                        obtain ⟨V, hV⟩ : ∃ V, V = wideOf ls gap' sp' s := ⟨_, rfl⟩
                        rw [← hV] at Hput k9
                        clear hput hcg hpart hg hs hse hY hHe hbg hpg2 hin1 a5 hVW hV1 bo8 hV
                        go_wp2_with fail
                        refine Hput.out.mono ?_
                        rintro e w9 ⟨rfl, hg9, hb9, hsz9, hk9⟩
                        have HG9 := Lib.hid hg9
                        have HP9 := Lib.hid (hk9 p _ _ hpg HBp8.out)
                        clear Hput hg9 hk9
                        go_wp2_with fail
                        exact ⟨⟨i + 1, hlt, by go_num, hb9, HP9.out, HG9⟩, by simp [RowKit.intOf] <;> omega⟩
                    · obtain rfl : i = lines.length := by omega
                      have kz := (w22.bl hb2q).all3
                      have hp2 : w2.heap.size ≤ p := by omega
                      have hg2 : w2.heap.size ≤ g := by omega
                      have HBg := hbg
                      clear hbg
                      go_wp2_with fail
                      refine bodyPost_ret (v := .tuple #[.agg #[.int .i64 W, .int .i64 H, .slice (some ⟨g, 0, none⟩) (W * H) (W * H)], .int .i64 0]) (by simp [results, Tryd.results97, go_sem, kz]) rfl ⟨_, _, _, _, _, _, rfl, by rw [HE.out, HZ.out], ?_, ?_⟩
                      · simp only [Int.toNat_natCast]
                        rw [← HW.out, ← HH.out]
                        have h := HBg.out.tabReadsB
                        have e : (List.range (W * H)).map (fun k => linesF ls ht' gap' sp' ld lines lines.length (k % W) (k / W)) = linesCells ls ht' gap' sp' ld lines := by unfold linesCells; rw [← HW.out, ← HH.out]; rfl
                        rw [e] at h
                        have hn : ∀ ad, some (⟨g, 0, none⟩ : Addr) = some ad → w.heap.size + 2 ≤ ad.block := fun ad h => by injection h with h; subst h; show w.heap.size + 2 ≤ g; omega
                        exact Res.page rfl (((h.store hn (by simp) _).store hn (by simp) _).store hn (by simp) _) (fun ad h => by have := hn ad h; omega)
                      · exact (((w2b.trans hb2q).setCell (by simp) _).setCell (by simp) _).setCell (by simp) _

end Go.Proofs.YtkhajhcfplicpaaDoor


/-! The law LinesAreSet answers true. -/
namespace Go.Proofs.YtkhajhcfplicpaaDoor
open Go.RowKit

set_option maxRecDepth 100000 in
set_option maxHeartbeats 1000000 in
theorem lines1_makes (g1 g2 g3 : Nat) (nm : List UInt8) (ht gap sp : Nat) (adl : Addr) (c : Nat) (ls : List Ltr) (L : Option Addr) (lc : Nat) (lines : List (List UInt8)) (ld : Nat) (w : World) (h1 : Blk w g1 67 #[.string ⟨nm.toArray⟩, .int .i64 ht, .int .i64 gap, .int .i64 sp, .slice (some adl) ls.length c])
    (h2 : Blk w g2 93 #[.slice L lines.length lc]) (h3 : Blk w g3 3 #[.int .i64 ld]) (hL : LtrsAt w (some adl) ls) (hR : Right ht gap sp ls) (hl : Reads w 1 L lines.length (strCells' lines)) (htl : ∀ t ∈ lines, t.length ≤ 1048576) (hz : linesErr ls ht gap sp lines (ld : Int) = 0) :
    MakesPage Tryd.prog 99 #[.pointer (some ⟨g1, 0, none⟩), .pointer (some ⟨g2, 0, none⟩), .pointer (some ⟨g3, 0, none⟩)] w (wideTo ls gap sp lines lines.length) (highOf ht ld lines) ((linesCells ls ht gap sp ld lines).map .bool) := by
  refine ⟨enters Tryd.func99 (by kernel_rfl) rfl, fun wx hx => ?_⟩
  have hb5 : Bl wx (wx.alloc (.cells #[.int .i64 0, .int .i64 0, .slice none 0 0] 24)) := (Bl.refl wx).alloc _
  have b5 := Blk.new wx 24 #[.int .i64 0, .int .i64 0, .slice none 0 0]
  have hxx := hx.trans hb5
  have k1 := (h1.bl hx).all5
  have k2 := (h2.bl hx).all1
  have k3 := (h3.bl hx).all1
  have l1 := (h1.bl hx).lt
  have l2 := (h2.bl hx).lt
  have l3 := (h3.bl hx).lt
  have hcall := linesOf_any nm ht gap sp adl c ls L lc lines ld _ _ (wx.alloc (.cells #[.int .i64 0, .int .i64 0, .slice none 0 0] 24)) (hL.bl hxx) hR (hl.bl hxx) htl hz rfl rfl
  rw [show grid (wideTo ls gap sp lines lines.length) (highOf ht ld lines) (linesF ls ht gap sp ld lines lines.length) = linesCells ls ht gap sp ld lines from rfl] at hcall
  obtain ⟨W, hW⟩ : ∃ W, W = wideTo ls gap sp lines lines.length := ⟨_, rfl⟩
  obtain ⟨H, hH⟩ : ∃ H, H = highOf ht ld lines := ⟨_, rfl⟩
  rw [← hW, ← hH] at hcall ⊢
  have Hcall := Lib.hid hcall
  clear hcall hL hR hl hz hW hH
  go_enter Tryd.func99, Tryd.ntmps99
  go_wp2_with fail
  refine Hcall.out.mono ?_
  rintro e w6 ⟨R, rc, rfl, hR, hRn, hb6⟩
  have kr3 := (b5.bl hb6).all3
  have hle6 := hb5.trans hb6
  have hRn' : ∀ ad, R = some ad → wx.heap.size + 1 ≤ ad.block := fun ad h => by have := hRn ad h; simp at this; omega
  have HR := Lib.hid hR; have HRn := Lib.hid hRn'
  clear hR hRn hRn'
  go_wp2_with fail
  refine bodyPost_ret (v := .agg #[.int .i64 W, .int .i64 H, .slice R (W * H) rc]) (by simp [results, Tryd.results99, go_sem, kr3]) rfl ⟨_, rfl, ⟨R, rc, rfl, ?_⟩, ?_⟩
  · exact ((HR.out.store HRn.out (by simp) _).store HRn.out (by simp) _).store HRn.out (by simp) _
  · exact ((hle6.setCell (by simp) _).setCell (by simp) _).setCell (by simp) _
theorem fit_few (ls : List Ltr) (gap sp : Nat) (most : Int) (ws : List (List UInt8)) : ∀ i, i ≤ ws.length → (fitTo ls gap sp most ws i).length ≤ i
  | 0, _ => Nat.le_refl _
  | i + 1, hi => by
    have ih := fit_few ls gap sp most ws i (by omega)
    have hg : ws[i]? = some ws[i] := List.getElem?_eq_getElem (by omega)
    rw [fitTo_succ hg]
    rcases List.eq_nil_or_concat (fitTo ls gap sp most ws i) with h0 | ⟨pre, l, h0⟩
    · rw [h0, fitStep_nil]
      simp
    · rw [List.concat_eq_append] at h0
      rw [h0] at ih ⊢
      rw [fitStep_last]
      rw [List.length_append, List.length_singleton] at ih
      split
      · rw [List.length_append, List.length_singleton]; omega
      · rw [List.length_append, List.length_append, List.length_singleton, List.length_singleton]; omega

set_option maxRecDepth 100000 in
set_option maxHeartbeats 8000000 in
theorem lawLines_any (nm : List UInt8) (ht gap sp : Int) (F : Option Addr) (c : Nat) (ls : List Ltr) (L : Option Addr) (lc : Nat) (lines : List (List UInt8)) (lead : Int) (t : List UInt8) (most : Int) (w : World) (hL : LtrsAt w F ls) (hnm : nm.length ≤ 9223372036854775807) (hn : ls.length ≤ 9223372036854775807) (hc : ls.length ≤ c)
    (hl : Reads w 1 L lines.length (strCells' lines)) (hln : lines.length ≤ 1048576) (htls : ∀ t ∈ lines, t.length ≤ 1048576) (htl : t.length ≤ 1048576) (hv : SubOk w) :
    Calls Tryd.prog 12 #[.agg #[.string ⟨nm.toArray⟩, .int .i64 ht, .int .i64 gap, .int .i64 sp, .slice F ls.length c], .slice L lines.length lc, .int .i64 lead, .string ⟨t.toArray⟩, .int .i64 most] w fun e w' => e = .returned (.bool true) ∧ Bl w w' := by
  let w2 := (((w).alloc (.cells #[.string ⟨nm.toArray⟩, .int .i64 ht, .int .i64 gap, .int .i64 sp, .slice F ls.length c] 67)).alloc (.cells #[.slice L lines.length lc] 93)).alloc (.cells #[.int .i64 lead] 3)
  have w2b : Bl w w2 := (((Bl.refl w).alloc _).alloc _).alloc _
  have w21 : Blk w2 (w.heap.size) 67 #[.string ⟨nm.toArray⟩, .int .i64 ht, .int .i64 gap, .int .i64 sp, .slice F ls.length c] := by
    have h0 := Blk.new (w) 67 #[.string ⟨nm.toArray⟩, .int .i64 ht, .int .i64 gap, .int .i64 sp, .slice F ls.length c]
    exact ((h0.alloc _).alloc _)
  have w22 : Blk w2 (w.heap.size + 1) 93 #[.slice L lines.length lc] := by
    have h0 := Blk.new ((w).alloc (.cells #[.string ⟨nm.toArray⟩, .int .i64 ht, .int .i64 gap, .int .i64 sp, .slice F ls.length c] 67)) 93 #[.slice L lines.length lc]
    simp only [World.size_alloc] at h0
    exact (h0.alloc _)
  have w23 : Blk w2 (w.heap.size + 1 + 1) 3 #[.int .i64 lead] := by
    have h0 := Blk.new (((w).alloc (.cells #[.string ⟨nm.toArray⟩, .int .i64 ht, .int .i64 gap, .int .i64 sp, .slice F ls.length c] 67)).alloc (.cells #[.slice L lines.length lc] 93)) 3 #[.int .i64 lead]
    simp only [World.size_alloc] at h0
    exact h0
  have lw2 : w2.heap.size = w.heap.size + 3 := by simp [w2]
  have HL := Lib.hid (hL.bl w2b)
  have HV := Lib.hid (hv.bl w2b); have HLn := Lib.hid (hl.bl w2b); have HTl := Lib.hid htls
  obtain ⟨fe, hfe⟩ : ∃ x, x = fontErr (nameB nm) ht gap sp ls := ⟨_, rfl⟩
  have hck := fontError_any nm ht gap sp F c ls w2 (hL.bl w2b) hnm hn hc
  rw [← hfe] at hck
  have Hck := Lib.hid hck; have HFe := Lib.hid hfe
  have k1 := w21.all5
  clear hL hck hfe hv hl htls
  go_enter Tryd.func12, Tryd.ntmps12
  go_wp2_with fail
  refine Hck.out.mono ?_
  rintro e w3 ⟨rfl, hb3⟩
  clear_value w2
  clear k1 Hck
  have k1 := (w21.bl hb3).all5
  have k2 := (w22.bl hb3).all1
  have k3 := (w23.bl hb3).all1
  have hst := setLines_any nm ht gap sp F c ls L lc lines lead w3 (HL.out.bl hb3) hnm hn (HLn.out.bl hb3) hln HTl.out (HV.out.bl hb3)
  rw [← HFe.out] at hst
  have Hst := Lib.hid hst
  clear hst
  go_wp2_with fail
  refine Hst.out.mono ?_
  rintro e w4 ⟨a, b, R, m, d, E, rfl, hE, hres, hb34⟩
  have HE := Lib.hid hE; have HRes := Lib.hid hres
  have hb4 := hb3.trans hb34
  clear k1 k2 k3 Hst hE hres
  go_upto_region 3 with fail
  obtain ⟨w5, hw5⟩ : ∃ x, x = w4.alloc (.cells #[.int .i64 a, .int .i64 b, .slice R m d] 24) := ⟨_, rfl⟩
  obtain ⟨o, ho⟩ : ∃ x, x = w4.heap.size := ⟨_, rfl⟩
  have bO : Blk w5 o 24 #[.int .i64 a, .int .i64 b, .slice R m d] := by rw [hw5, ho]; exact Blk.new _ _ _
  have hb45 : Bl w4 w5 := by rw [hw5]; exact (Bl.refl _).alloc _
  rw [← hw5, ← ho]
  clear hw5 ho
  have hb5 := hb4.trans hb45
  go_upto_if 27 with fail
  go_cut [14] from 28 to 31 (fun s14 wc => s14 = .int .i64 E ∧ Bl w5 wc)
  case first =>
    have k1 := (w21.bl hb5).all5
    have k2 := (w22.bl hb5).all1
    have k3 := (w23.bl hb5).all1
    by_cases hz : fe = 0
    · subst hz
      obtain ⟨ht', gap', sp', rfl, rfl, rfl, hR⟩ := right_of HFe.out.symm
      obtain ⟨adl, rfl⟩ := some_at HL.out hR.many.1
      have hte := linesError_any nm ht' gap' sp' adl c ls L lc lines lead w5 (HL.out.bl hb5) hR (HLn.out.bl hb5) hln HTl.out (HV.out.bl hb5)
      have hTE2 : linesErr ls ht' gap' sp' lines lead = E := by rw [HE.out]; unfold flinesErr; rw [if_pos rfl]; rfl
      rw [hTE2] at hte
      have Hte := Lib.hid hte
      clear hte hTE2 hR
      go_wp2_with fail
      refine Hte.out.mono ?_
      rintro e w6 ⟨rfl, hb6⟩
      go_wp2_with fail
      go_meet
      case rel => exact ⟨rfl, hb6⟩
    · have hq2 : (fe == 0) = false := by simp [hz]
      have HV2 := Lib.hid (show E = fe by rw [HE.out]; exact if_neg hz)
      clear hz
      go_wp2_with fail
      go_meet
      case rel => exact ⟨by rw [HV2.out], Bl.refl _⟩
  case rest =>
    obtain ⟨rfl, hbc⟩ := hcut
    rename World => w6
    have hb6 := hb5.trans hbc
    have k1 := (w21.bl hb6).all5
    have k2 := (w22.bl hb6).all1
    have k3 := (w23.bl hb6).all1
    go_upto_region 6 with fail
    go_cut [41] from 32 to 41 (fun s41 wc => s41 = .bool false ∧ Bl w6 wc)
    case first =>
      have kO := (bO.bl hbc).all3
      go_wp2_with fail
      refine (glyphs_any _).mono ?_
      rintro e w7 ⟨rfl, hb7⟩
      have hb27 := hb6.trans hb7
      have hb57 := hbc.trans hb7
      clear kO k1 k2 k3
      have kO := (bO.bl hb57).all3
      have hok : E = 0 → ∃ (ht' gap' sp' ld : Nat) (adl : Addr), ht = (ht' : Int) ∧ gap = (gap' : Int) ∧ sp = (sp' : Int) ∧ lead = (ld : Int) ∧ F = some adl ∧ Right ht' gap' sp' ls ∧ linesErr ls ht' gap' sp' lines (ld : Int) = 0 := fun h => by
        have h1 := HE.out
        by_cases hz : fe = 0
        · obtain ⟨ht', gap', sp', rfl, rfl, rfl, hR⟩ := right_of (HFe.out.symm.trans hz)
          obtain ⟨adl, rfl⟩ := some_at HL.out hR.many.1
          unfold flinesErr at h1
          rw [if_pos hz, h] at h1
          simp only [Int.toNat_natCast] at h1
          have h2 := (linesErr0_zero (linesErr_zero h1.symm).1).1.1
          obtain ⟨ld, rfl⟩ := Int.eq_ofNat_of_zero_le h2
          exact ⟨ht', gap', sp', ld, adl, rfl, rfl, rfl, rfl, rfl, hR, h1.symm⟩
        · unfold flinesErr at h1
          rw [if_neg hz] at h1
          exact absurd (h1.symm.trans h) hz
      have hbi := bitsIs_any w3.heap.size E (wideTo ls gap.toNat sp.toNat lines lines.length) (highOf ht.toNat lead.toNat lines) (linesCells ls ht.toNat gap.toNat sp.toNat lead.toNat lines) a b R m d 99 #[.pointer (some ⟨w.heap.size, 0, none⟩), .pointer (some ⟨w.heap.size + 1, 0, none⟩), .pointer (some ⟨w.heap.size + 1 + 1, 0, none⟩)] w7 (HRes.out.bl (hb45.trans hb57)) (fun h => by
        obtain ⟨ht', gap', sp', ld, adl, rfl, rfl, rfl, rfl, rfl, hR, hz⟩ := hok h
        simp only [Int.toNat_natCast]
        exact lines1_makes _ _ _ nm ht' gap' sp' adl c ls L lc lines ld w7 (w21.bl hb27) (w22.bl hb27) (w23.bl hb27) (HL.out.bl hb27) hR (HLn.out.bl hb27) HTl.out hz) (fun h => by
        obtain ⟨ht', gap', sp', ld, adl, rfl, rfl, rfl, rfl, rfl, hR, hz⟩ := hok h
        simp only [Int.toNat_natCast]
        have := (lines_ok hz).2.2.2.2.2.2.2.2.1
        omega)
      have Hbi := Lib.hid hbi
      clear hbi hok
      go_wp2_with fail
      refine Hbi.out.mono ?_
      rintro e w8 ⟨rfl, hb8⟩
      go_wp2_with fail
      go_meet
      case rel => exact ⟨by first | rfl | simp, hb7.trans hb8⟩
    case rest =>
      obtain ⟨rfl, hbc2⟩ := hcut
      rename World => w7
      have hb7 := hb6.trans hbc2
      clear k1 k2 k3 HRes bO
      have k1 := (w21.bl hb7).all5
      have hft := fitG_any nm ht gap sp F c ls t most w7 (HL.out.bl hb7) hnm hn htl (HV.out.bl hb7)
      rw [← HFe.out] at hft
      have Hft := Lib.hid hft
      clear hft
      go_wp2_with fail
      refine Hft.out.mono ?_
      rintro e w8 ⟨R2, m2, d2, E2, rfl, hE2, hbad, hok, -, hb8⟩
      have HE2 := Lib.hid hE2; have HBad := Lib.hid hbad; have HOk := Lib.hid hok
      have hb28 := hb7.trans hb8
      clear k1 Hft hE2 hbad hok
      go_upto_if 51 with fail
      go_cut [14] from 52 to 60 (fun s14 wc => s14 = .int .i64 E2 ∧ Bl w8 wc)
      case first =>
        have k1 := (w21.bl hb28).all5
        by_cases hz : fe = 0
        · subst hz
          obtain ⟨ht', gap', sp', rfl, rfl, rfl, hR⟩ := right_of HFe.out.symm
          obtain ⟨adl, rfl⟩ := some_at HL.out hR.many.1
          have hte := textError_any nm ht' gap' sp' adl c ls t w8 (HL.out.bl hb28) hR htl (HV.out.bl hb28)
          have Hte := Lib.hid hte
          obtain ⟨T, hT⟩ : ∃ x, x = textErr ls t := ⟨_, rfl⟩
          have HT := Lib.hid hT
          clear hte hR hT
          go_wp2_with fail
          refine Hte.out.mono ?_
          rintro e w9 ⟨rfl, hb9⟩
          rw [← HT.out]
          go_wp2_with fail
          refine (in_any _ _ _ _).mono ?_
          rintro e w' ⟨rfl, rfl⟩
          go_wp2_with fail
          refine (when_any _ _ _).mono ?_
          rintro e w' ⟨rfl, rfl⟩
          go_wp2_with fail
          refine (first2_any _ _ _ _ (Blk.new _ _ _)).mono ?_
          rintro e w10 ⟨rfl, rfl⟩
          have HV2 := Lib.hid (show E2 = firstNZ [T, whenI (!inB most 1 4000) 3] by rw [HE2.out, HT.out]; exact if_pos rfl)
          rw [← HV2.out]
          go_wp2_with fail
          go_meet
          case rel => exact ⟨rfl, hb9.alloc _⟩
        · have hq2 : (fe == 0) = false := by simp [hz]
          have HV2 := Lib.hid (show E2 = fe by rw [HE2.out]; exact if_neg hz)
          clear hz
          go_wp2_with fail
          go_meet
          case rel => exact ⟨by rw [HV2.out], Bl.refl _⟩
      case rest =>
        obtain ⟨rfl, hbc3⟩ := hcut
        rename World => w9
        have hb9 := hb28.trans hbc3
        by_cases hz : E2 = 0
        · have hz' := HE2.out
          rw [hz] at hz'
          have hfe : fe = 0 ∧ textErr ls t = 0 := by
            unfold fitErr at hz'
            by_cases h : fe = 0
            · rw [if_pos h] at hz'
              exact ⟨h, firstNZ_zero hz'.symm _ (by simp)⟩
            · rw [if_neg h] at hz'
              exact absurd hz'.symm h
          obtain ⟨hfe0, hte⟩ := hfe
          obtain ⟨ht', gap', sp', rfl, rfl, rfl, hR⟩ := right_of (HFe.out.symm.trans hfe0)
          obtain ⟨adl, rfl⟩ := some_at HL.out hR.many.1
          obtain ⟨rfl, hrd⟩ := HOk.out hz
          simp only [Int.toNat_natCast] at hrd
          have hfo := fitOf_any nm ht' gap' sp' adl c ls t most w9 (HL.out.bl hb9) hR hte (HV.out.bl hb9)
          have hfew := fit_few ls gap' sp' most (wordsOf t) _ (Nat.le_refl _)
          have hwl := words_len hte
          obtain ⟨out, hout⟩ : ∃ out, out = fitTo ls gap' sp' most (wordsOf t) (wordsOf t).length := ⟨_, rfl⟩
          simp only [Int.toNat_natCast]
          rw [← hout] at hfo hfew hrd ⊢
          have Hfo := Lib.hid hfo; have HRd := Lib.hid hrd
          have k1 := (w21.bl hb9).all5
          subst hz
          clear hfo hrd hz' hte hR hout
          go_wp2_with fail
          refine Hfo.out.mono ?_
          rintro e w10 ⟨v, rfl, hown, hb10⟩
          obtain ⟨A2, c2, rfl, hr2⟩ := own_reads hown
          have Heq := Lib.hid (equalStrs_any R2 A2 d2 c2 out w10 (HRd.out.bl (hbc3.trans hb10)) hr2 (by omega))
          clear hown hr2 Hfo k1
          go_wp2_with fail
          refine Heq.out.mono ?_
          rintro e w11 ⟨rfl, hb11⟩
          go_wp2_with fail
          go_ret
          exact ⟨rfl, w2b.trans (hb9.trans (hb10.trans hb11))⟩
        · obtain ⟨rfl, rfl⟩ := HBad.out hz
          have hq : (E2 != 0) = true := by simp [hz]
          have hq2 : (E2 == 0) = false := by simp [hz]
          have hq3 : (E2 == E2) = true := by simp
          clear hz
          go_wp2_with fail
          go_ret
          exact ⟨by first | rfl | simp, w2b.trans hb9⟩

end Go.Proofs.YtkhajhcfplicpaaDoor
