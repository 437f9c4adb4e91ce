/- kept, SheetOf's function value. -/
import Derived.Test.YtecfjdladcmhjaaCount3
import Derived.Test.YtecfjdladcmhjaaInkOf
import Derived.Laws.EntriesVeiled
namespace Go.Proofs.Ytecfjdladcmhjaa
open Go.RowKit

/-! ### plain -/
def gB (dark : Nat → Nat) (part whole : Int) (i : Nat) : Bool := decide (part * whole ≤ ((dark i : Nat) : Int) * 1000)
def paperN (dark : Nat → Nat) (part whole : Int) (i : Nat) : Nat := if gB dark part whole i then 0 else 1
theorem paper_zero {dark : Nat → Nat} {part whole : Int} {i : Nat} (h : gB dark part whole i = true) : paperN dark part whole i = 0 := by unfold paperN; rw [if_pos h]
theorem paper_one {dark : Nat → Nat} {part whole : Int} {i : Nat} (h : gB dark part whole i = false) : paperN dark part whole i = 1 := by unfold paperN; rw [h]; rfl
theorem pw_bd {part whole : Int} (hp : 1 ≤ part ∧ part ≤ 1000) (hw : 0 ≤ whole ∧ whole ≤ 4000) : 0 ≤ part * whole ∧ part * whole ≤ 4000000 := by
  have h1 := Int.mul_nonneg (show 0 ≤ part by omega) hw.1
  have h2 := Int.mul_le_mul hp.2 hw.2 hw.1 (by omega)
  omega

set_option maxRecDepth 100000 in
set_option maxHeartbeats 1000000 in
theorem kept1_any (p q r N : Nat) (P : Option Addr) (pc : Nat) (dark : Nat → Nat) (part whole : Int) (i : Nat) (w : World) (hp : Blk w p 55 #[.slice P N pc]) (hq : Blk w q 3 #[.int .i64 part]) (hr : Blk w r 3 #[.int .i64 whole])
    (hP : Reads w 1 P N ((tabL N fun k => ((dark k : Nat) : Int)).map (.int .i64))) (hi : i < N) (hd : dark i ≤ 1048576) (h1 : 1 ≤ part ∧ part ≤ 1000) (h2 : 0 ≤ whole ∧ whole ≤ 4000) :
    Calls Try.prog 47 #[.int .i64 i, .pointer (some ⟨p, 0, none⟩), .pointer (some ⟨q, 0, none⟩), .pointer (some ⟨r, 0, none⟩)] w fun e w' => e = .returned (.bool (gB dark part whole i)) ∧ Bl w w' := by
  have kp := hp.all1
  have kq := hq.all1
  have kr := hr.all1
  have hpw := pw_bd h1 h2
  obtain ⟨ad, rfl, hc⟩ := hP.intAt hi
  unfold gB
  obtain ⟨d, hd'⟩ : ∃ d, d = dark i := ⟨_, rfl⟩
  simp only [← hd'] at hc hd ⊢
  clear hd' hP
  go_enter Try.func47, Try.ntmps47
  go_wp2_with fail
  refine wp_region_flow [(true, 0), (true, 1), (true, 2), (true, 3), (true, 4), (true, 5), (true, 6), (true, 7), (true, 8), (true, 9)] (fun _ => false) (by kernel_rfl) (by kernel_rfl) (by kernel_rfl) (by kernel_rfl) ?_
  iterate 1
    apply Flow.calm2 _ _ rfl rfl
    · intro w' hb' K' hK'
      obtain ⟨hc', hf'⟩ := hb'.rule
      go_simp
      try go_ints
      exact hK'
    · intro K' hK'
      simp only [Act.put, List.setIfInBounds_toArray, List.set_cons_zero, List.set_cons_succ]
      exact hK'
  iterate 1
    apply Flow.mv _ rfl
    · intro K' hK'
      simp only [Act.put, Act.eval, List.setIfInBounds_toArray, List.set_cons_zero, List.set_cons_succ, arr_getD, List.getD_cons_zero]
      exact hK'
  iterate 1
    apply Flow.calm2 _ _ rfl rfl
    · intro w' hb' K' hK'
      obtain ⟨hc', hf'⟩ := hb'.rule
      go_simp
      try go_ints
      exact hK'
    · intro K' hK'
      simp only [Act.put, List.setIfInBounds_toArray, List.set_cons_zero, List.set_cons_succ]
      exact hK'
  iterate 1
    apply Flow.calm2 _ _ rfl rfl
    · intro w' hb' K' hK'
      obtain ⟨hc', hf'⟩ := hb'.rule
      go_simp
      try go_ints
      exact hK'
    · intro K' hK'
      simp only [Act.put, List.setIfInBounds_toArray, List.set_cons_zero, List.set_cons_succ]
      exact hK'
  iterate 1
    apply Flow.calm2 _ _ rfl rfl
    · intro w' hb' K' hK'
      obtain ⟨hc', hf'⟩ := hb'.rule
      go_simp
      try go_ints
      exact hK'
    · intro K' hK'
      simp only [Act.put, List.setIfInBounds_toArray, List.set_cons_zero, List.set_cons_succ]
      exact hK'
  iterate 2
    apply Flow.calm2 _ _ rfl rfl
    · intro w' hb' K' hK'
      obtain ⟨hc', hf'⟩ := hb'.rule
      go_simp
      try go_ints
      exact hK'
    · intro K' hK'
      simp only [Act.put, List.setIfInBounds_toArray, List.set_cons_zero, List.set_cons_succ]
      exact hK'
  iterate 2
    apply Flow.calm2 _ _ rfl rfl
    · intro w' hb' K' hK'
      obtain ⟨hc', hf'⟩ := hb'.rule
      go_simp
      try go_ints
      exact hK'
    · intro K' hK'
      simp only [Act.put, List.setIfInBounds_toArray, List.set_cons_zero, List.set_cons_succ]
      exact hK'
  iterate 1
    apply Flow.asg _ rfl
    · intro K' hK'
      simp only [Act.put, Act.eval, List.setIfInBounds_toArray, List.set_cons_zero, List.set_cons_succ, arr_getD, List.getD_cons_zero, List.getD_cons_succ]
      exact hK'
  refine Flow.done ?_
  go_wp2_with fail
  go_ret
  exact ⟨rfl, (Bl.refl _).drew⟩
theorem kept1_enters : ∀ args w, (callFunc 47 args).run Try.prog w = .ok (.enter 47 args) w := enters Try.func47 (by kernel_rfl) rfl

set_option maxRecDepth 100000 in
set_option maxHeartbeats 4000000 in
theorem kept_any (N : Nat) (P : Option Addr) (pc : Nat) (dark : Nat → Nat) (part whole : Int) (w : World) (hP : Reads w 1 P N ((tabL N fun k => ((dark k : Nat) : Int)).map (.int .i64))) (hN : N ≤ 4000) (hd : ∀ i, dark i ≤ 1048576) (h1 : 1 ≤ part ∧ part ≤ 1000) (h2 : 0 ≤ whole ∧ whole ≤ 4000) :
    Calls Try.prog 24 #[.slice P N pc, .int .i64 whole, .int .i64 part] w fun e w' => ∃ (x m : Int) (is : Bool), e = .returned (.tuple #[.int .i64 x, .int .i64 m, .bool is]) ∧
      ((is = false ∧ NoEnds (paperN dark part whole) N) ∨ (is = true ∧ ∃ k r : Nat, Ends (paperN dark part whole) N k r ∧ x = k ∧ m = (r : Int) - k + 1)) ∧ Bl w w' := by
  let w2 := (((w).alloc (.cells #[.slice P N pc] 55)).alloc (.cells #[.int .i64 whole] 3)).alloc (.cells #[.int .i64 part] 3)
  have w2b : Bl w w2 := (((Bl.refl w).alloc _).alloc _).alloc _
  have w21 : Blk w2 (w.heap.size) 55 #[.slice P N pc] := by
    have h0 := Blk.new (w) 55 #[.slice P N pc]
    exact ((h0.alloc _).alloc _)
  have w22 : Blk w2 (w.heap.size + 1) 3 #[.int .i64 whole] := by
    have h0 := Blk.new ((w).alloc (.cells #[.slice P N pc] 55)) 3 #[.int .i64 whole]
    simp only [World.size_alloc] at h0
    exact (h0.alloc _)
  have w23 : Blk w2 (w.heap.size + 1 + 1) 3 #[.int .i64 part] := by
    have h0 := Blk.new (((w).alloc (.cells #[.slice P N pc] 55)).alloc (.cells #[.int .i64 whole] 3)) 3 #[.int .i64 part]
    simp only [World.size_alloc] at h0
    exact h0
  have k1 := w21.all1
  have hent := kept1_enters
  have hcall : ∀ wx i, Bl w2 wx → i < N → Calls Try.prog 47 #[.int .i64 (i : Nat), .pointer (some ⟨w.heap.size, 0, none⟩), .pointer (some ⟨w.heap.size + 1 + 1, 0, none⟩), .pointer (some ⟨w.heap.size + 1, 0, none⟩)] wx fun e w' => e = .returned (.bool (gB dark part whole i)) ∧ Bl wx w' :=
    fun wx i hb hi => kept1_any _ _ _ N P pc dark part whole i wx (w21.bl hb) (w23.bl hb) (w22.bl hb) ((hP.bl w2b).bl hb) hi (hd i) h1 h2
  have Hcall := Lib.hid hcall
  clear hcall hP
  go_enter Try.func24, Try.ntmps24
  go_wp2_with fail
  go_loopw [6] (fun u wr => ∃ k : Nat, k ≤ N ∧ u = .int .i64 k ∧ Hid (∀ j, j < k → paperN dark part whole j = 0) ∧ Bl w2 wr) (fun u _ => N - (intOf u).toNat)
  case atStart => exact ⟨0, Nat.zero_le _, rfl, fun j hj => absurd hj (by omega), Bl.refl _⟩
  case round =>
    obtain ⟨k, hk, rfl, hz, hbr⟩ := hrel
    clear k1
    by_cases hlt : k < N
    · cases hg : gB dark part whole k
      · have hone := paper_one hg
        have Hone := Lib.hid hone
        have hc := Hcall.out wr k hbr hlt
        rw [hg] at hc
        have Hc := Lib.hid hc
        clear hone hc hg
        go_wp2_with fail
        refine Hc.out.mono ?_
        rintro e w3 ⟨rfl, hb3⟩
        have hbr3 := hbr.trans hb3
        go_wp2_with fail
        go_loopw [10] (fun u w4 => ∃ m : Nat, k < m ∧ m ≤ N ∧ u = .int .i64 m ∧ Hid (∀ j, m ≤ j → j < N → paperN dark part whole j = 0) ∧ Bl w2 w4) (fun u _ => (intOf u).toNat)
        case atStart => exact ⟨N, hlt, Nat.le_refl _, rfl, fun j h1 h2 => by omega, hbr3⟩
        case round =>
          clear hbr hb3 hbr3
          rename_i wo _ _
          obtain ⟨m, hm1, hm2, rfl, hzm, hbr⟩ := hrel
          obtain ⟨m', rfl⟩ : ∃ m', m = m' + 1 := ⟨m - 1, by omega⟩
          have em : ((m' + 1 : Nat) : Int) = (m' : Int) + 1 := by simp
          have em2 : (m' : Int) + 1 - 1 = (m' : Int) := by omega
          rw [em]
          cases hg : gB dark part whole m'
          · have hone2 := paper_one hg
            have Hone2 := Lib.hid hone2
            have hc := Hcall.out _ m' hbr (by omega)
            rw [hg] at hc
            have Hc2 := Lib.hid hc
            clear hone2 hc hg
            go_wp2_with fail
            refine Hc2.out.mono ?_
            rintro e w5 ⟨rfl, hb5⟩
            go_wp2_with fail
            refine bodyPost_ret (v := .tuple #[.int .i64 k, .int .i64 ((m' : Int) + 1 - k), .bool true]) (by simp [results, Try.results24, go_sem] <;> omega) rfl ?_
            have hfin : Ends (paperN dark part whole) N k m' := ⟨⟨hlt, by rw [Hone.out]; omega, hz.out⟩, by omega, by rw [Hone2.out]; omega, fun j h1 h2 => hzm.out j (by omega) h2⟩
            first
              | exact ⟨_, _, true, rfl, Or.inr ⟨rfl, k, m', hfin, rfl, by omega⟩, (w2b.trans hbr).trans hb5⟩
              | exact ⟨_, _, Or.inr ⟨rfl, ⟨k, m', hfin, rfl, by omega⟩, (w2b.trans hbr).trans hb5⟩⟩
          · have hz0 := paper_zero hg
            have hne : m' ≠ k := fun e => by subst e; have := Hone.out; omega
            have hzz : Hid (∀ j, m' ≤ j → j < N → paperN dark part whole j = 0) := fun j h1 h2 => by
              rcases Nat.lt_or_ge m' j with h | h
              · exact hzm.out j (by omega) h2
              · obtain rfl : j = m' := by omega
                exact hz0
            have hc := Hcall.out _ m' hbr (by omega)
            rw [hg] at hc
            have Hc2 := Lib.hid hc
            have hkm : k < m' := by omega
            clear hz0 hc hg
            go_wp2_with fail
            refine Hc2.out.mono ?_
            rintro e w5 ⟨rfl, hb5⟩
            go_wp2_with fail
            exact ⟨⟨m', hkm, by omega, by go_num, hzz, hbr.trans hb5⟩, by simp [intOf]⟩
      · have hz0 := paper_zero hg
        have hzz : Hid (∀ j, j < k + 1 → paperN dark part whole j = 0) := fun j hj => by
          rcases Nat.lt_or_ge j k with h | h
          · exact hz.out j h
          · obtain rfl : j = k := by omega
            exact hz0
        have hc := Hcall.out wr k hbr hlt
        rw [hg] at hc
        have Hc := Lib.hid hc
        clear hz0 hc hg
        go_wp2_with fail
        refine Hc.out.mono ?_
        rintro e w3 ⟨rfl, hb3⟩
        go_wp2_with fail
        exact ⟨⟨k + 1, hlt, by go_num, hzz, hbr.trans hb3⟩, by simp [intOf]; omega⟩
    · obtain rfl : k = N := by omega
      go_wp2_with fail
      refine wp_loop_rounds 1 ?_
      rw [rounds_succ]
      go_wp2_with fail
      refine bodyPost_ret (v := .tuple #[.int .i64 k, .int .i64 0, .bool false]) (by simp [results, Try.results24, go_sem]) rfl ?_
      first
        | exact ⟨_, _, false, rfl, Or.inl ⟨rfl, hz.out⟩, w2b.trans hbr⟩
        | exact ⟨_, _, Or.inl ⟨rfl, hz.out, w2b.trans hbr⟩⟩

/-! ### the reference's sheet -/
set_option maxRecDepth 100000 in
set_option maxHeartbeats 4000000 in
theorem sheetOf1_any (q N : Nat) (P : Option Addr) (pc : Nat) (dark : Nat → Nat) (part whole : Int) (w : World) (hq : Blk w q 3 #[.int .i64 part]) (hP : Reads w 1 P N ((tabL N fun k => ((dark k : Nat) : Int)).map (.int .i64))) (hN : N ≤ 4000) (hd : ∀ i, dark i ≤ 1048576) (h1 : 1 ≤ part ∧ part ≤ 1000) (h2 : 0 ≤ whole ∧ whole ≤ 4000) :
    Calls Try.prog 25 #[.slice P N pc, .int .i64 whole, .pointer (some ⟨q, 0, none⟩)] w fun e w' => ∃ (x r : Nat) (is : Bool), e = .returned (.tuple #[.int .i64 x, .int .i64 r, .bool is]) ∧
      ((is = false ∧ NoEnds (paperN dark part whole) N) ∨ (is = true ∧ Ends (paperN dark part whole) N x r)) ∧ Bl w w' := by
  have hpw := pw_bd h1 h2
  have hmk := run_make_row' (P := Try.prog) 55 3 (.int .i64 0) 8 Try.underlying55 info_int rfl .i64 .i64 N (by omega) (by omega)
  rw [tabI_made] at hmk
  have start : Blk (w.alloc (.cells (tabI N fun _ => 0) 3)) w.heap.size 3 (tabI N fun k => if k < 0 then ((paperN dark part whole k : Nat) : Int) else 0) := by
    have := Blk.new w 3 (tabI N fun _ => 0)
    simpa using this
  have Start := Lib.hid start; have HP := Lib.hid hP; have Hd := Lib.hid hd
  clear start hP hd
  go_enter Try.func25, Try.ntmps25
  go_wp2_with fail
  go_loopw [16] (fun u wr => ∃ k : Nat, k ≤ N ∧ u = .int .i64 k ∧ Bl w wr ∧ Blk wr w.heap.size 3 (tabI N fun j => if j < k then ((paperN dark part whole j : Nat) : Int) else 0)) (fun u _ => N - (intOf u).toNat)
  case atStart => exact ⟨0, Nat.zero_le _, rfl, (Bl.refl _).alloc _, Start.out⟩
  case round =>
    clear hmk
    obtain ⟨k, hk, rfl, hbr, hbo⟩ := hrel
    by_cases hlt : k < N
    · obtain ⟨ad, rfl, hc⟩ := (HP.out.bl hbr).intAt hlt
      have kq := (hq.bl hbr).all1
      have hdk := Hd.out k
      have kc := hbo.tabAt hlt
      have kf := hbo.frozen k
      simp only [Nat.lt_irrefl, if_false] at kc
      cases hg : gB dark part whole k
      · have hp := paper_one hg
        have hset := hbo.tabSet (f' := fun j => if j < k + 1 then ((paperN dark part whole j : Nat) : Int) else 0) k 1 (fun j _ => by
          by_cases e : j = k
          · subst e; simp [hp]
          · rw [if_neg e]
            have : (j < k + 1) = (j < k) := by apply propext; omega
            simp only [this])
        have Hset := Lib.hid hset
        have hlt2 : ((dark k : Nat) : Int) * 1000 < part * whole := by
          unfold gB at hg
          rw [decide_eq_false_iff_not] at hg
          omega
        obtain ⟨d, hd'⟩ : ∃ d, d = dark k := ⟨_, rfl⟩
        rw [← hd'] at hdk hlt2
        simp only [← hd'] at hc
        clear hset hp hg hd'
        go_wp2_with fail
        exact ⟨⟨k + 1, hlt, by go_num, hbr.setCell (by simp) _, Hset.out⟩, by simp [intOf]; omega⟩
      · have hp := paper_zero hg
        have hsame : tabI N (fun j => if j < k then ((paperN dark part whole j : Nat) : Int) else 0) = tabI N (fun j => if j < k + 1 then ((paperN dark part whole j : Nat) : Int) else 0) := tabI_congr fun j _ => by
          by_cases e : j = k
          · subst e; simp [hp]
          · have : (j < k + 1) = (j < k) := by apply propext; omega
            simp only [this]
        rw [hsame] at hbo
        have hlt2 : ¬ ((dark k : Nat) : Int) * 1000 < part * whole := by
          unfold gB at hg
          rw [decide_eq_true_iff] at hg
          omega
        obtain ⟨d, hd'⟩ : ∃ d, d = dark k := ⟨_, rfl⟩
        rw [← hd'] at hdk hlt2
        simp only [← hd'] at hc
        clear hsame hp hg hd' kc
        go_wp2_with fail
        exact ⟨⟨k + 1, hlt, by go_num, hbr, hbo⟩, by simp [intOf]; omega⟩
    · obtain rfl : k = N := by omega
      have e : tabI k (fun j => if j < k then ((paperN dark part whole j : Nat) : Int) else 0) = tabI k (fun j => ((paperN dark part whole j : Nat) : Int)) := tabI_congr fun j hj => by rw [if_pos hj]
      rw [e] at hbo
      have Hr := Lib.hid hbo.tabReads
      clear e hbo
      go_wp2_with fail
      refine (ends_any (some ⟨w.heap.size, 0, none⟩) k k (paperN dark part whole) wr Hr.out (by omega)).mono ?_
      rintro e w' ⟨x, r, is, rfl, hx, rfl⟩
      have Hx := Lib.hid hx
      clear hx
      go_wp2_with fail
      have hfin : (is = false ∧ NoEnds (paperN dark part whole) k) ∨ (is = true ∧ Ends (paperN dark part whole) k x r) := by
        rcases Hx.out with ⟨h1, _, _, h2⟩ | h
        · exact Or.inl ⟨h1, h2⟩
        · exact Or.inr h
      refine bodyPost_ret (v := .tuple #[.int .i64 x, .int .i64 r, .bool is]) (by simp [results, Try.results25, go_sem]) rfl ?_
      first
        | exact ⟨x, r, is, rfl, hfin, hbr⟩
        | (refine ⟨x, r, ?_⟩; cases is <;> simp_all)

end Go.Proofs.Ytecfjdladcmhjaa
