/- glyph.heading. -/
import Derived.Test.YtjelhdpcaileiaaGreatDoorS22
import Derived.Test.YtjelhdpcaileiaaGreatDoorS23
import Derived.Test.YtjelhdpcaileiaaGreatDoorS24

namespace Go.Proofs.YtjelhdpcaileiaaGreatDoor
open Go.RowKit Go.Shelf

theorem int9_long {s : ByteArray} (h : ¬ s.size ≤ 9) : int9 s.data.toList = none := by
  have hl := Lib.size_eq s
  unfold int9
  split
  · rw [if_neg (by omega)]
  · rfl
theorem atoi_all9 {s : ByteArray} (h : s.size ≤ 9) : Lib.atoiAll s.data.toList = Lib.NumEnd.ofOption (Lib.atoi s.data.toList) := Lib.atoiAll_short _ (by have hl := Lib.size_eq s; omega)
theorem int9_at {s r : ByteArray} {v : Int} (hv : Lib.atoiAll s.data.toList = .ok v) (h9 : s.size ≤ 9) (hr : r = ⟨(Lib.itoa v).toArray⟩) : (int9 s.data.toList).isSome = (decide (0 ≤ v) && (r.toList == s.toList)) ∧ ∀ n : Nat, int9 s.data.toList = some n → v = n := by
  have h := atoi_all9 h9
  rw [hv] at h
  have hl := Lib.size_eq s
  have ha : Lib.atoi s.data.toList = some v := by
    cases ha : Lib.atoi s.data.toList with
    | none => rw [ha] at h; cases h
    | some x => rw [ha] at h; exact congrArg some (Lib.NumEnd.ok.inj h).symm
  have hb : (r.toList == s.toList) = decide (Lib.itoa v = s.data.toList) := by
    rw [Lib.toList_data, Lib.toList_data, hr, Bool.eq_iff_iff, beq_iff_eq, decide_eq_true_eq]
  unfold int9
  rw [ha, hb]
  simp only
  by_cases c : 0 ≤ v ∧ Lib.itoa v = s.data.toList
  · rw [if_pos ⟨by omega, c.1, c.2⟩, decide_eq_true c.1, decide_eq_true c.2]
    exact ⟨rfl, fun n hn => by have := Option.some.inj hn; omega⟩
  · rw [if_neg (fun x => c ⟨x.2.1, x.2.2⟩)]
    refine ⟨?_, fun n hn => by cases hn⟩
    rw [← Bool.decide_and, decide_eq_false c]
    rfl
def IntRes (s : List UInt8) (w : World) (e : Ending) (w' : World) : Prop := ∃ v : Int, e = .returned (.tuple #[.int .i64 v, .bool (int9 s).isSome]) ∧ (∀ n : Nat, int9 s = some n → v = n) ∧ Bl w w'

set_option maxRecDepth 100000 in
set_option maxHeartbeats 1000000 in
theorem integer_any (s : ByteArray) (w : World) (hs : s.size ≤ 281474976710656) (hN : NumOk w) :
    Calls Tryz.prog 157 #[.string s] w (IntRes s.data.toList w) := by
  have HN := Lib.hid hN
  clear hN
  by_cases hok : ∃ v, Lib.atoiAll s.data.toList = .ok v
  · obtain ⟨v, hv⟩ := hok
    obtain ⟨v0, v1⟩ := Lib.atoiAll_bounds hv
    have hA := Lib.hid (fun w => atoi_ok s hs v hv w)
    have Hv := Lib.hid hv
    clear hv
    by_cases h9 : s.size ≤ 9
    · obtain ⟨r, hr⟩ : ∃ r : ByteArray, r = ⟨(Lib.itoa v).toArray⟩ := ⟨_, rfl⟩
      have HNA := Lib.hid (int9_at Hv.out h9 hr)
      by_cases hp : 0 ≤ v
      · have HI : Hid (∀ w, NumOk w → Calls Tryz.prog 69 #[.int .i64 v] w fun e w' => e = .returned (.string r) ∧ Bl w w') := Lib.hid (by
          rw [hr]; exact fun w hN => itoa_any v v0 v1 w hN)
        clear hr
        cases hrs : (r.toList == s.toList)
        all_goals
          have Hrs := Lib.hid hrs
          go_enter Tryz.func157, Tryz.ntmps157
          go_wp2_with (go_at_call 189; refine (hA.out _).mono ?_; rintro e w1 ⟨rfl, hb1⟩)
          go_wp2_with (go_at_call 69; refine (HI.out _ (HN.out.bl hb1)).mono ?_; rintro e w2 ⟨rfl, hb2⟩)
          go_ret2
          refine ⟨v, ?_, HNA.out.2, hb1.trans hb2⟩
          rw [HNA.out.1, Hrs.out, decide_eq_true hp]
          first
            | rfl
            | (simp; done)
      · have HX := Lib.hid (show (int9 s.data.toList).isSome = false by rw [HNA.out.1, decide_eq_false hp]; rfl)
        clear hr
        go_enter Tryz.func157, Tryz.ntmps157
        go_wp2_with (go_at_call 189; refine (hA.out _).mono ?_; rintro e w1 ⟨rfl, hb1⟩)
        go_ret2
        exact ⟨v, by rw [HX.out]; rfl, HNA.out.2, hb1⟩
    · have HX := Lib.hid (int9_long h9)
      go_enter Tryz.func157, Tryz.ntmps157
      go_wp2_with (go_at_call 189; refine (hA.out _).mono ?_; rintro e w1 ⟨rfl, hb1⟩)
      go_ret2
      exact ⟨v, by rw [HX.out]; rfl, (fun n h => by rw [HX.out] at h; cases h), hb1⟩
  · have hbad : ∀ v, Lib.atoiAll s.data.toList ≠ .ok v := fun v h => hok ⟨v, h⟩
    have HX : Hid (int9 s.data.toList = none) := Lib.hid (by
      by_cases h9 : s.size ≤ 9
      · have := atoi_all9 h9
        unfold int9
        cases ha : Lib.atoi s.data.toList with
        | none => rfl
        | some v => rw [ha] at this; exact absurd this (hbad v)
      · exact int9_long h9)
    have HA := Lib.hid (fun w hN => atoi_bad s hs hbad w hN)
    clear hbad hok
    go_enter Tryz.func157, Tryz.ntmps157
    go_wp2_with (go_at_call 189; refine (HA.out _ HN.out).mono ?_; rintro e w1 ⟨v, T, N, rfl, hb1⟩)
    go_ret2
    exact ⟨v, by rw [HX.out]; rfl, (fun n h => by rw [HX.out] at h; cases h), hb1⟩

/-- What glyph.heading answers. -/
def HeadF (l : List UInt8) (w : World) (e : Ending) (w' : World) : Prop :=
  ∃ (s : ByteArray) (v1 v2 v3 : Int), e = .returned (.tuple #[.agg #[.string s, .int .i64 v1, .int .i64 v2, .int .i64 v3, .slice none 0 0], .bool (headF l).isSome]) ∧
    (∀ nm a b c, headF l = some (nm, a, b, c) → s = ⟨nm.toArray⟩ ∧ v1 = (a : Nat) ∧ v2 = (b : Nat) ∧ v3 = (c : Nat)) ∧ Bl w w'
theorem headF_no {l : List UInt8} {w w' : World} {s : ByteArray} {v1 v2 v3 : Int} (h : headF l = none) (hb : Bl w w') : HeadF l w (.returned (.tuple #[.agg #[.string s, .int .i64 v1, .int .i64 v2, .int .i64 v3, .slice none 0 0], .bool false])) w' :=
  ⟨s, v1, v2, v3, by rw [h]; rfl, (fun _ _ _ _ h2 => by rw [h] at h2; cases h2), hb⟩
theorem headF_len {l : List UInt8} (h : (wordsOf l).length ≠ 5) : headF l = none := by
  unfold headF
  split
  · rename_i hw; rw [hw] at h; exact absurd rfl h
  · rfl
theorem five_of {ws : List (List UInt8)} (h : ws.length = 5) : ∃ a b c d e, ws = [a, b, c, d, e] := by
  match ws, h with
  | [a, b, c, d, e], _ => exact ⟨a, b, c, d, e, rfl⟩
theorem headF_five {l w0 w1 w2 w3 w4 : List UInt8} (h : wordsOf l = [w0, w1, w2, w3, w4]) : headF l = if w0 = fontK ∧ w1 ≠ [] then (match int9 w2, int9 w3, int9 w4 with
    | some a, some b, some c => some (w1, a, b, c)
    | _, _, _ => none) else none := by
  unfold headF
  rw [h]
  rfl
end Go.Proofs.YtjelhdpcaileiaaGreatDoor


/-! glyph.heading. -/
namespace Go.Proofs.YtjelhdpcaileiaaGreatDoor
open Go.RowKit Go.Shelf

theorem str_cell {w : World} {g : Nat} {ts : List (List UInt8)} {i : Nat} {x : List UInt8} (h : Reads w 1 (some ⟨g, 0, none⟩) ts.length (strCells' ts)) (hi : ts[i]? = some x) : w.cell? ⟨g, i, none⟩ = some (.string ⟨x.toArray⟩) := by
  obtain ⟨ad, e, hc⟩ := str_at h hi
  obtain rfl := Option.some.inj e
  have e2 : (⟨g, 0, none⟩ : Addr).add i = ⟨g, i, none⟩ := by unfold Addr.add; split <;> simp_all
  rw [e2] at hc
  exact hc
theorem bl_five {w w' : World} {g : Nat} (hb : Bl w w') (hg : w.heap.size ≤ g) (a b c d e : Value) : Bl w (((((w'.setCell ⟨g, 0, none⟩ a).setCell ⟨g, 1, none⟩ b).setCell ⟨g, 2, none⟩ c).setCell ⟨g, 3, none⟩ d).setCell ⟨g, 4, none⟩ e) :=
  ((((hb.setCell hg _).setCell hg _).setCell hg _).setCell hg _).setCell hg _
theorem head_bad {l : List UInt8} {w0 w1 w2 w3 w4 : List UInt8} (hF : headF l = if w0 = fontK ∧ w1 ≠ [] then (match int9 w2, int9 w3, int9 w4 with
    | some a, some b, some c => some (w1, a, b, c)
    | _, _, _ => none) else none) (h : (w0 == fontK) = false ∨ w1.isEmpty = true ∨ (int9 w2).isSome = false ∨ (int9 w3).isSome = false ∨ (int9 w4).isSome = false) : headF l = none := by
  rw [hF]
  rcases h with h | h | h | h | h
  · rw [if_neg (fun c => by rw [c.1] at h; exact absurd h (by decide))]
  · rw [if_neg (fun c => c.2 (List.isEmpty_iff.1 h))]
  all_goals
    split
    · split
      · simp_all
      · rfl
    · rfl
theorem head_good {l : List UInt8} {w0 w1 w2 w3 w4 : List UInt8} (hF : headF l = if w0 = fontK ∧ w1 ≠ [] then (match int9 w2, int9 w3, int9 w4 with
    | some a, some b, some c => some (w1, a, b, c)
    | _, _, _ => none) else none) (h0 : (w0 == fontK) = true) (h1 : w1.isEmpty = false) (h2 : (int9 w2).isSome = true) (h3 : (int9 w3).isSome = true) (h4 : (int9 w4).isSome = true) : ∃ a b c, int9 w2 = some a ∧ int9 w3 = some b ∧ int9 w4 = some c ∧ headF l = some (w1, a, b, c) := by
  obtain ⟨a, ha⟩ := Option.isSome_iff_exists.1 h2
  obtain ⟨b, hb⟩ := Option.isSome_iff_exists.1 h3
  obtain ⟨c, hc⟩ := Option.isSome_iff_exists.1 h4
  refine ⟨a, b, c, ha, hb, hc, ?_⟩
  rw [hF, if_pos ⟨by simpa using h0, fun e => by rw [e] at h1; cases h1⟩, ha, hb, hc]

theorem words_le : ∀ (ws : List (List UInt8)) (x : List UInt8), x ∈ ws → x.length ≤ (joinW ws).length
  | [], x, h => by cases h
  | [y], x, h => by rw [List.mem_singleton.1 h]; exact Nat.le_refl _
  | y :: z :: l, x, h => by
    show x.length ≤ (y ++ 32 :: joinW (z :: l)).length
    rw [List.length_append, List.length_cons]
    rcases List.mem_cons.1 h with rfl | h
    · omega
    · have := words_le (z :: l) x h
      omega

set_option maxRecDepth 100000 in
set_option maxHeartbeats 2000000 in
theorem heading_any (l : List UInt8) (w : World) (hl : l.length < 1048577) (hN : NumOk w) (hC : CutOk w) :
    Calls Tryz.prog 82 #[.string ⟨l.toArray⟩] w (HeadF l w) := by
  let w1 := (w).alloc (.cells #[.string ⟨#[]⟩, .int .i64 0, .int .i64 0, .int .i64 0, .slice none 0 0] 45)
  have w1b : Bl w w1 := (Bl.refl w).alloc _
  have w11 : Blk w1 (w.heap.size) 45 #[.string ⟨#[]⟩, .int .i64 0, .int .i64 0, .int .i64 0, .slice none 0 0] := by
    have h0 := Blk.new (w) 45 #[.string ⟨#[]⟩, .int .i64 0, .int .i64 0, .int .i64 0, .slice none 0 0]
    exact h0
  have hsp := splitW_any l w1 (by omega) (hC.bl w1b)
  have HN := Lib.hid hN
  have lw1 : w1.heap.size = w.heap.size + 1 := by simp [w1]
  have Lw1 := Lib.hid lw1
  have hwl : ∀ x ∈ wordsOf l, x.length ≤ l.length := fun x hx => Nat.le_trans (words_le (wordsOf l) x hx) (by rw [(wordsOf_spec _ l (Nat.le_refl _)).2.1]; exact Nat.le_refl _)
  clear lw1
  by_cases h5 : (wordsOf l).length = 5
  · obtain ⟨w0, x1, x2, x3, x4, hw⟩ := five_of h5
    have hF := headF_five hw
    rw [hw] at hsp hwl
    have HF := Lib.hid hF; have Hsp := Lib.hid hsp
    have s2 : x2.length ≤ 1048576 := by have := hwl x2 (by simp); omega
    have s3 : x3.length ≤ 1048576 := by have := hwl x3 (by simp); omega
    have s4 : x4.length ≤ 1048576 := by have := hwl x4 (by simp); omega
    obtain ⟨i2, hi2⟩ : ∃ b, b = (int9 x2).isSome := ⟨_, rfl⟩
    obtain ⟨i3, hi3⟩ : ∃ b, b = (int9 x3).isSome := ⟨_, rfl⟩
    obtain ⟨i4, hi4⟩ : ∃ b, b = (int9 x4).isSome := ⟨_, rfl⟩
    have C2 := Lib.hid (fun w h => show Calls Tryz.prog 157 #[.string ⟨x2.toArray⟩] w (fun e w' => ∃ v : Int, e = .returned (.tuple #[.int .i64 v, .bool i2]) ∧ (∀ n : Nat, int9 x2 = some n → v = n) ∧ Bl w w') from by
      rw [hi2]; exact integer_any ⟨x2.toArray⟩ w (by rw [Lib.size_mk]; omega) h)
    have C3 := Lib.hid (fun w h => show Calls Tryz.prog 157 #[.string ⟨x3.toArray⟩] w (fun e w' => ∃ v : Int, e = .returned (.tuple #[.int .i64 v, .bool i3]) ∧ (∀ n : Nat, int9 x3 = some n → v = n) ∧ Bl w w') from by
      rw [hi3]; exact integer_any ⟨x3.toArray⟩ w (by rw [Lib.size_mk]; omega) h)
    have C4 := Lib.hid (fun w h => show Calls Tryz.prog 157 #[.string ⟨x4.toArray⟩] w (fun e w' => ∃ v : Int, e = .returned (.tuple #[.int .i64 v, .bool i4]) ∧ (∀ n : Nat, int9 x4 = some n → v = n) ∧ Bl w w') from by
      rw [hi4]; exact integer_any ⟨x4.toArray⟩ w (by rw [Lib.size_mk]; omega) h)
    have HI := Lib.hid (show i2 = (int9 x2).isSome ∧ i3 = (int9 x3).isSome ∧ i4 = (int9 x4).isSome from ⟨hi2, hi3, hi4⟩)
    clear hN hC hsp h5 hw hF hwl hi2 hi3 hi4 s2 s3 s4
    cases q0 : (w0 == [102, 111, 110, 116]) with
    | false =>
      have HX := Lib.hid (head_bad HF.out (.inl q0))
      go_enter Tryz.func82, Tryz.ntmps82
      go_wp2_with (go_at_call 109; refine Hsp.out.mono ?_; rintro e w2 ⟨c, rfl, hr, hb2⟩; refine Hid.out ?_)
      refine Lib.hid ?_
      have kr := (w11.bl hb2).all5
      have c0 := str_cell hr (i := 0) rfl
      have c1 := str_cell hr (i := 1) rfl
      clear hr
      go_wp2_with fail
      refine bodyPost_ret (v := .tuple #[.agg #[.string ⟨#[]⟩, .int .i64 0, .int .i64 0, .int .i64 0, .slice none 0 0], .bool false]) (by simp [results, Tryz.results82, go_sem, kr]) rfl ?_
      exact headF_no HX.out (bl_five (w1b.trans hb2) (Nat.le_refl _) _ _ _ _ _)
    | true =>
    cases q1 : x1.isEmpty with
    | true =>
      have HX := Lib.hid (head_bad HF.out (.inr (.inl q1)))
      go_enter Tryz.func82, Tryz.ntmps82
      go_wp2_with (go_at_call 109; refine Hsp.out.mono ?_; rintro e w2 ⟨c, rfl, hr, hb2⟩; refine Hid.out ?_)
      refine Lib.hid ?_
      have kr := (w11.bl hb2).all5
      have c0 := str_cell hr (i := 0) rfl
      have c1 := str_cell hr (i := 1) rfl
      clear hr
      go_wp2_with fail
      refine bodyPost_ret (v := .tuple #[.agg #[.string ⟨#[]⟩, .int .i64 0, .int .i64 0, .int .i64 0, .slice none 0 0], .bool false]) (by simp [results, Tryz.results82, go_sem, kr]) rfl ?_
      exact headF_no HX.out (bl_five (w1b.trans hb2) (Nat.le_refl _) _ _ _ _ _)
    | false =>
      go_enter Tryz.func82, Tryz.ntmps82
      go_wp2_with (go_at_call 109; refine Hsp.out.mono ?_; rintro e w2 ⟨c, rfl, hr, hb2⟩; refine Hid.out ?_)
      refine Lib.hid ?_
      have kr := (w11.bl hb2).all5
      have c0 := str_cell hr (i := 0) rfl
      have c1 := str_cell hr (i := 1) rfl
      have HR2 := Lib.hid hr
      have b2 := w11.bl hb2
      have hlt2 := b2.lt
      have hgr : w1.heap.size < w2.heap.size := by
        rcases Nat.lt_or_ge w1.heap.size w2.heap.size with h | h
        · exact h
        · have := World.block_lt_of_cell? w2 _ c0
          exact absurd this (by simp; omega)
      clear hr
      go_wp2_with fail
      have b3 := ((b2.set_ 0 (.string ⟨x1.toArray⟩))).alloc (.cells #[.pointer (some ⟨w.heap.size, 1, none⟩), .pointer (some ⟨w.heap.size, 2, none⟩), .pointer (some ⟨w.heap.size, 3, none⟩)] 223)
      have bp := Blk.new (w2.setCell ⟨w.heap.size, 0, none⟩ (.string ⟨x1.toArray⟩)) 223 #[.pointer (some ⟨w.heap.size, 1, none⟩), .pointer (some ⟨w.heap.size, 2, none⟩), .pointer (some ⟨w.heap.size, 3, none⟩)]
      have hb3 : Bl w ((w2.setCell ⟨w.heap.size, 0, none⟩ (.string ⟨x1.toArray⟩)).alloc (.cells #[.pointer (some ⟨w.heap.size, 1, none⟩), .pointer (some ⟨w.heap.size, 2, none⟩), .pointer (some ⟨w.heap.size, 3, none⟩)] 223)) := ((w1b.trans hb2).setCell (Nat.le_refl _) _).alloc _
      have hr3 := (HR2.out.store (B := w.heap.size + 1) (fun ad h => by injection h with h; subst h; have := Lw1.out; show w.heap.size + 1 ≤ w1.heap.size; omega) (p := ⟨w.heap.size, 0, none⟩) (Nat.lt_succ_self _) (.string ⟨x1.toArray⟩)).bl ((Bl.refl _).alloc (.cells #[.pointer (some ⟨w.heap.size, 1, none⟩), .pointer (some ⟨w.heap.size, 2, none⟩), .pointer (some ⟨w.heap.size, 3, none⟩)] 223))
      have es : (w2.setCell ⟨w.heap.size, 0, none⟩ (.string ⟨x1.toArray⟩)).heap.size = w2.heap.size := by simp
      rw [es] at bp
      simp only [List.setIfInBounds_toArray, List.set_cons_zero] at b3
      have hgw : w.heap.size ≠ w2.heap.size := by omega
      generalize hw3 : (w2.setCell ⟨w.heap.size, 0, none⟩ (.string ⟨x1.toArray⟩)).alloc (.cells #[.pointer (some ⟨w.heap.size, 1, none⟩), .pointer (some ⟨w.heap.size, 2, none⟩), .pointer (some ⟨w.heap.size, 3, none⟩)] 223) = w3 at b3 bp hb3 hr3 ⊢
      clear hw3 kr c0 c1 b2 hlt2 hb2 HR2 es hgr
      generalize hgp : w2.heap.size = gp at bp hgw ⊢
      clear hgp
      have HB3 := Lib.hid hb3; have BF3 := Lib.hid b3; have BP3 := Lib.hid bp; have HR3 := Lib.hid hr3; have Lg := Lib.hid (show w.heap.size + 1 ≤ w1.heap.size by have := Lw1.out; omega); have Hgw := Lib.hid hgw
      clear hb3 b3 bp hr3 hgw
      refine wp_loop_rounds 4 ?_
      rw [rounds_succ]
      have kp := BP3.out.all3
      have ks := str_cell HR3.out (i := 2) rfl
      go_wp2_with (go_at_call 157; refine (C2.out _ (HN.out.bl HB3.out)).mono ?_; rintro e wq1 ⟨v1, rfl, g1, hbq1⟩; refine Hid.out ?_)
      refine Lib.hid ?_
      have G1 := Lib.hid g1
      have kf := (BF3.out.bl hbq1).all5
      clear kp ks g1
      cases i2 with
      | false =>
        have HX := Lib.hid (head_bad HF.out (.inr (.inr (.inl ( HI.out.1.symm)))))
        go_wp2_with fail
        refine bodyPost_ret (v := .tuple #[.agg #[.string ⟨x1.toArray⟩, .int .i64 v1, .int .i64 0, .int .i64 0, .slice none 0 0], .bool false]) (by simp [results, Tryz.results82, go_sem, kf]) rfl ?_
        exact headF_no HX.out (bl_five ((HB3.out.trans hbq1).setCell (Nat.le_refl _) _) (Nat.le_refl _) _ _ _ _ _)
      | true =>
      have hb' : Bl w (wq1.setCell ⟨w.heap.size, 1, none⟩ (.int .i64 v1)) := (HB3.out.trans hbq1).setCell (Nat.le_refl _) _
      have bf' := (BF3.out.bl hbq1).set_ 1 (.int .i64 v1)
      have bp' := (BP3.out.bl hbq1).far (p := ⟨w.heap.size, 1, none⟩) (fun e => Hgw.out e.symm) (.int .i64 v1)
      have hr' := (HR3.out.bl hbq1).store (B := w.heap.size + 1) (fun ad h => by injection h with h; subst h; exact Lg.out) (p := ⟨w.heap.size, 1, none⟩) (Nat.lt_succ_self _) (.int .i64 v1)
      simp only [List.setIfInBounds_toArray, List.set_cons_zero, List.set_cons_succ] at bf'
      go_wp2_with fail
      generalize hwn : wq1.setCell ⟨w.heap.size, 1, none⟩ (.int .i64 v1) = w4 at hb' bf' bp' hr' ⊢
      have HB4 := Lib.hid hb'; have BF4 := Lib.hid bf'; have BP4 := Lib.hid bp'; have HR4 := Lib.hid hr'
      clear hwn hb' bf' bp' hr' kf hbq1
      rw [rounds_succ]
      have kp := BP4.out.all3
      have ks := str_cell HR4.out (i := 3) rfl
      go_wp2_with (go_at_call 157; refine (C3.out _ (HN.out.bl HB4.out)).mono ?_; rintro e wq2 ⟨v2, rfl, g2, hbq2⟩; refine Hid.out ?_)
      refine Lib.hid ?_
      have G2 := Lib.hid g2
      have kf := (BF4.out.bl hbq2).all5
      clear kp ks g2
      cases i3 with
      | false =>
        have HX := Lib.hid (head_bad HF.out (.inr (.inr (.inr (.inl ( HI.out.2.1.symm))))))
        go_wp2_with fail
        refine bodyPost_ret (v := .tuple #[.agg #[.string ⟨x1.toArray⟩, .int .i64 v1, .int .i64 v2, .int .i64 0, .slice none 0 0], .bool false]) (by simp [results, Tryz.results82, go_sem, kf]) rfl ?_
        exact headF_no HX.out (bl_five ((HB4.out.trans hbq2).setCell (Nat.le_refl _) _) (Nat.le_refl _) _ _ _ _ _)
      | true =>
      have hb' : Bl w (wq2.setCell ⟨w.heap.size, 2, none⟩ (.int .i64 v2)) := (HB4.out.trans hbq2).setCell (Nat.le_refl _) _
      have bf' := (BF4.out.bl hbq2).set_ 2 (.int .i64 v2)
      have bp' := (BP4.out.bl hbq2).far (p := ⟨w.heap.size, 2, none⟩) (fun e => Hgw.out e.symm) (.int .i64 v2)
      have hr' := (HR4.out.bl hbq2).store (B := w.heap.size + 1) (fun ad h => by injection h with h; subst h; exact Lg.out) (p := ⟨w.heap.size, 2, none⟩) (Nat.lt_succ_self _) (.int .i64 v2)
      simp only [List.setIfInBounds_toArray, List.set_cons_zero, List.set_cons_succ] at bf'
      go_wp2_with fail
      generalize hwn : wq2.setCell ⟨w.heap.size, 2, none⟩ (.int .i64 v2) = w5 at hb' bf' bp' hr' ⊢
      have HB5 := Lib.hid hb'; have BF5 := Lib.hid bf'; have BP5 := Lib.hid bp'; have HR5 := Lib.hid hr'
      clear hwn hb' bf' bp' hr' kf hbq2
      rw [rounds_succ]
      have kp := BP5.out.all3
      have ks := str_cell HR5.out (i := 4) rfl
      go_wp2_with (go_at_call 157; refine (C4.out _ (HN.out.bl HB5.out)).mono ?_; rintro e wq3 ⟨v3, rfl, g3, hbq3⟩; refine Hid.out ?_)
      refine Lib.hid ?_
      have G3 := Lib.hid g3
      have kf := (BF5.out.bl hbq3).all5
      clear kp ks g3
      cases i4 with
      | false =>
        have HX := Lib.hid (head_bad HF.out (.inr (.inr (.inr (.inr ( HI.out.2.2.symm))))))
        go_wp2_with fail
        refine bodyPost_ret (v := .tuple #[.agg #[.string ⟨x1.toArray⟩, .int .i64 v1, .int .i64 v2, .int .i64 v3, .slice none 0 0], .bool false]) (by simp [results, Tryz.results82, go_sem, kf]) rfl ?_
        exact headF_no HX.out (bl_five ((HB5.out.trans hbq3).setCell (Nat.le_refl _) _) (Nat.le_refl _) _ _ _ _ _)
      | true =>
      have hb' : Bl w (wq3.setCell ⟨w.heap.size, 3, none⟩ (.int .i64 v3)) := (HB5.out.trans hbq3).setCell (Nat.le_refl _) _
      have bf' := (BF5.out.bl hbq3).set_ 3 (.int .i64 v3)
      have bp' := (BP5.out.bl hbq3).far (p := ⟨w.heap.size, 3, none⟩) (fun e => Hgw.out e.symm) (.int .i64 v3)
      have hr' := (HR5.out.bl hbq3).store (B := w.heap.size + 1) (fun ad h => by injection h with h; subst h; exact Lg.out) (p := ⟨w.heap.size, 3, none⟩) (Nat.lt_succ_self _) (.int .i64 v3)
      simp only [List.setIfInBounds_toArray, List.set_cons_zero, List.set_cons_succ] at bf'
      go_wp2_with fail
      generalize hwn : wq3.setCell ⟨w.heap.size, 3, none⟩ (.int .i64 v3) = w6 at hb' bf' bp' hr' ⊢
      have HB6 := Lib.hid hb'; have BF6 := Lib.hid bf'; have BP6 := Lib.hid bp'; have HR6 := Lib.hid hr'
      clear hwn hb' bf' bp' hr' kf hbq3
      rw [rounds_succ]
      have kf := BF6.out.all5
      go_wp2_with fail
      obtain ⟨a, b, c, ha, hb, hc, hh⟩ := head_good HF.out q0 q1 HI.out.1.symm HI.out.2.1.symm HI.out.2.2.symm
      refine bodyPost_ret (v := .tuple #[.agg #[.string ⟨x1.toArray⟩, .int .i64 v1, .int .i64 v2, .int .i64 v3, .slice none 0 0], .bool true]) (by simp [results, Tryz.results82, go_sem, kf]) rfl ?_
      refine ⟨⟨x1.toArray⟩, v1, v2, v3, by rw [hh]; rfl, fun nm a' b' c' h => ?_, bl_five HB6.out (Nat.le_refl _) _ _ _ _ _⟩
      rw [hh] at h
      obtain ⟨rfl, h2⟩ := Prod.mk.inj (Option.some.inj h)
      obtain ⟨rfl, h3⟩ := Prod.mk.inj h2
      obtain ⟨rfl, rfl⟩ := Prod.mk.inj h3
      exact ⟨rfl, G1.out _ ha, G2.out _ hb, G3.out _ hc⟩
  · have HF := Lib.hid (headF_len h5)
    have h5i : (((wordsOf l).length : Int) != 5) = true := by rw [bne_iff_ne]; omega
    generalize wordsOf l = ws at hsp h5 h5i
    have Hsp := Lib.hid hsp
    clear hN hC hsp h5 hwl
    go_enter Tryz.func82, Tryz.ntmps82
    go_wp2_with (go_at_call 109; refine Hsp.out.mono ?_; rintro e w2 ⟨c, rfl, hr, hb2⟩; refine Hid.out ?_)
    refine Lib.hid ?_
    have kr := (w11.bl hb2).all5
    clear hr
    go_wp2_with fail
    refine bodyPost_ret (v := .tuple #[.agg #[.string ⟨#[]⟩, .int .i64 0, .int .i64 0, .int .i64 0, .slice none 0 0], .bool false]) (by simp [results, Tryz.results82, go_sem, kr]) rfl ?_
    exact headF_no HF.out (bl_five (w1b.trans hb2) (Nat.le_refl _) _ _ _ _ _)
end Go.Proofs.YtjelhdpcaileiaaGreatDoor
