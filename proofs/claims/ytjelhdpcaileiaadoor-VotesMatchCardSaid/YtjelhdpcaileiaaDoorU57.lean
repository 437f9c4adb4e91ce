/- The law VotesMatch answers true. -/
import Derived.Test.YtjelhdpcaileiaaDoorU56
import Derived.Test.YtjelhdpcaileiaaDoorU37

namespace Go.Proofs.YtjelhdpcaileiaaDoor
open Go.RowKit

set_option maxRecDepth 100000 in
theorem neq_code (t : ByteArray) (a b c d e : Int) (w : World) : (binOp .neq 106 (.agg #[.int .i64 a, .string t, .int .i64 b, .int .i64 c, .int .i64 d, .int .i64 e]) (.agg #[.int .i64 a, .string t, .int .i64 b, .int .i64 c, .int .i64 d, .int .i64 e])).run Tryd.prog w = .ok (.bool false) w := by
  have u3 := Tryd.underlying3
  have a3 := Tryd.isAgg3
  have z3 := Tryd.sizeOf3
  have u9 := Tryd.underlying9
  have a9 := Tryd.isAgg9
  have z9 := Tryd.sizeOf9
  rw [run_neq_struct, show (10000 : Nat) = 9999 + 1 from rfl, run_equalIn_agg w 9999 _ _ _ (by kernel_rfl) (by kernel_rfl)]
  simp only [Program.fieldsOf, Tryd.underlying106]
  go_simp
set_option maxRecDepth 100000 in
set_option maxHeartbeats 1000000 in
theorem equalCodes_any (A B : Option Addr) (c d : Nat) (ss : List Cd) (w : World) (hx : Reads w 6 A ss.length (cdCells ss)) (hy : Reads w 6 B ss.length (cdCells ss)) (hl : ss.length ≤ 1099511627776) :
    Calls Tryd.prog 63 #[.slice A ss.length c, .slice B ss.length d] w fun e w' => e = .returned (.bool true) ∧ Bl w w' := by
  have Hx := Lib.hid hx; have Hy := Lib.hid hy
  clear hx hy
  go_enter Tryd.func63, Tryd.ntmps63
  go_wp2
  go_loopw [13] (fun v wr => ∃ k : Nat, k ≤ ss.length ∧ v = .int .i64 k ∧ Bl w wr) (fun v _ => ss.length - (RowKit.intOf v).toNat)
  case atStart => exact ⟨0, Nat.zero_le _, rfl, Bl.refl _⟩
  case round =>
    obtain ⟨k, hk, rfl, hbr⟩ := hrel
    by_cases hlt : k < ss.length
    · obtain ⟨s, hg⟩ : ∃ s, ss[k]? = some s := ⟨_, List.getElem?_eq_getElem hlt⟩
      obtain ⟨ad, rfl, c0, c1, c2, c3, c4, c5⟩ := cd_at (Hx.out.bl hbr) hg
      obtain ⟨bd, rfl, d0, d1, d2, d3, d4, d5⟩ := cd_at (Hy.out.bl hbr) hg
      have hne := fun w' => neq_code ⟨s.t.toArray⟩ s.k s.X s.Y s.W s.n w'
      have hi : (k : Int) < (ss.length : Int) := by omega
      clear hg
      go_wp2
      refine wp_region_flow [(true, 0), (true, 1), (true, 2), (true, 3), (true, 4), (true, 5), (true, 6), (true, 7), (true, 8)] (fun _ => false) (by kernel_rfl) (by kernel_rfl) (by kernel_rfl) (by kernel_rfl) ?_
      iterate 2
        apply Flow.mv _ rfl
        · intro K' hK'
          simp only [Act.put, Act.eval, List.setIfInBounds_toArray, List.set_cons_zero, List.set_cons_succ, arr_getD, List.getD_cons_zero, List.getD_cons_succ]
          exact hK'
      iterate 1
        apply Flow.calm2 _ _ rfl rfl
        · intro w' hb' K' hK'
          obtain ⟨hc', hf'⟩ := hb'.rule
          go_simp
          try go_ints
          exact hK'
        · intro K' hK'
          simp only [Act.put, List.setIfInBounds_toArray, List.set_cons_zero, List.set_cons_succ]
          exact hK'
      iterate 1
        apply Flow.calm2 _ _ rfl rfl
        · intro w' hb' K' hK'
          obtain ⟨hc', hf'⟩ := hb'.rule
          go_simp
          try go_ints
          exact hK'
        · intro K' hK'
          simp only [Act.put, List.setIfInBounds_toArray, List.set_cons_zero, List.set_cons_succ]
          exact hK'
      iterate 2
        apply Flow.mv _ rfl
        · intro K' hK'
          simp only [Act.put, Act.eval, List.setIfInBounds_toArray, List.set_cons_zero, List.set_cons_succ, arr_getD, List.getD_cons_zero, List.getD_cons_succ]
          exact hK'
      iterate 1
        apply Flow.calm2 _ _ rfl rfl
        · intro w' hb' K' hK'
          obtain ⟨hc', hf'⟩ := hb'.rule
          go_simp
          try go_ints
          exact hK'
        · intro K' hK'
          simp only [Act.put, List.setIfInBounds_toArray, List.set_cons_zero, List.set_cons_succ]
          exact hK'
      iterate 1
        apply Flow.calm2 _ _ rfl rfl
        · intro w' hb' K' hK'
          obtain ⟨hc', hf'⟩ := hb'.rule
          go_simp
          try go_ints
          exact hK'
        · intro K' hK'
          simp only [Act.put, List.setIfInBounds_toArray, List.set_cons_zero, List.set_cons_succ]
          exact hK'
      iterate 1
        apply Flow.calm2 _ _ rfl rfl
        · intro w' hb' K' hK'
          obtain ⟨hc', hf'⟩ := hb'.rule
          go_simp
          try go_ints
          exact hK'
        · intro K' hK'
          simp only [Act.put, List.setIfInBounds_toArray, List.set_cons_zero, List.set_cons_succ]
          exact hK'
      refine Flow.done ?_
      go_wp2
      exact ⟨⟨k + 1, hlt, by go_num, hbr.drew⟩, by simp [RowKit.intOf] <;> omega⟩
    · go_wp2
      go_ret
      exact ⟨rfl, hbr⟩
set_option maxRecDepth 100000 in
set_option maxHeartbeats 4000000 in
theorem lawVotes_any (A : Option Addr) (d : Nat) (cs : List Cd) (w : World) (hx : Reads w 6 A cs.length (cdCells cs)) (ht : ∀ c ∈ cs, c.t.length ≤ 9223372036854775807) (hl : cs.length ≤ 9223372036854775807) :
    Calls Tryd.prog 8 #[.slice A cs.length d] w fun e w' => e = .returned (.bool true) ∧ Bl w w' := by
  have HX := Lib.hid hx; have HT := Lib.hid ht
  have Hv := Lib.hid (vote_any A d cs w hx hl ht)
  clear hx ht
  go_enter Tryd.func8, Tryd.ntmps8
  go_wp2_with fail
  refine Hv.out.mono ?_
  rintro e w1 (⟨hne, rfl, hb1⟩ | ⟨h0, R, c, h, rfl, hr1, hb1⟩)
  · have Hve := Lib.hid (voteError_any A d cs w1 (HX.out.bl hb1) hl)
    obtain ⟨ev, hev⟩ : ∃ ev, ev = voteErr cs := ⟨_, rfl⟩
    rw [← hev] at Hve hne ⊢
    have hq : (ev != 0) = true := by rw [bne_iff_ne]; exact hne
    clear hev hne Hv
    go_wp2_with fail
    refine Hve.out.mono ?_
    rintro e w2 ⟨rfl, hb2⟩
    go_wp2_with fail
    refine (bars_any _).mono ?_
    rintro e w3 ⟨rfl, hb3⟩
    go_wp2_with fail
    refine (bars_any _).mono ?_
    rintro e w4 ⟨rfl, hb4⟩
    go_wp2_with fail
    go_ret
    exact ⟨rfl, ((hb1.trans hb2).trans hb3).trans hb4⟩
  · have Hve := Lib.hid (voteError_any A d cs w1 (HX.out.bl hb1) hl)
    rw [h0] at Hve
    have hlen : cs.length ≤ 10000 := by
      unfold voteErr at h0
      by_cases hz : firstNZ (cs.map cdErr) = 0
      · rw [if_pos hz] at h0
        by_cases hlt : (10000 : Int) < (cs.length : Int)
        · rw [decide_eq_true hlt] at h0; cases h0
        · omega
      · rw [if_neg hz] at h0; exact absurd h0 hz
    have hall : ∀ c ∈ cs, CdOk 1 c := fun c hc => cdOk_of_err (by
      have key : ∀ l : List Cd, firstNZ (l.map cdErr) = 0 → ∀ c ∈ l, cdErr c = 0 := fun l => by
        induction l with
        | nil => intro _ c hc; cases hc
        | cons x l ih =>
          intro h c hc
          have h' : (if cdErr x = 0 then firstNZ (l.map cdErr) else cdErr x) = 0 := h
          by_cases hx : cdErr x = 0
          · rw [if_pos hx] at h'
            rcases List.mem_cons.1 hc with rfl | hc
            · exact hx
            · exact ih h' c hc
          · rw [if_neg hx] at h'; exact absurd h' hx
      refine key cs ?_ c hc
      unfold voteErr at h0
      by_cases hz : firstNZ (cs.map cdErr) = 0
      · exact hz
      · rw [if_neg hz] at h0; exact absurd h0 hz) (HT.out c hc)
    have HA := Lib.hid hall; have HL := Lib.hid hlen; have HR1 := Lib.hid hr1
    have HG := Lib.hid ((groupC_ok hall cs.length (Nat.le_refl _)).2)
    rw [List.take_length] at HG
    clear hall hlen hr1 h0 Hv
    go_wp2_with fail
    refine Hve.out.mono ?_
    rintro e w2 ⟨rfl, hb2⟩
    go_wp2_with fail
    refine (bars_any _).mono ?_
    rintro e w3 ⟨rfl, hb3⟩
    have hb13 := (hb1.trans hb2).trans hb3
    have Hvo := Lib.hid (voteOf_any A d cs w3 (HX.out.bl hb13) HL.out HA.out)
    have HR3 := Lib.hid (HR1.out.bl (hb2.trans hb3))
    clear hb1 hb2 hb3
    go_wp2_with fail
    refine Hvo.out.mono ?_
    rintro e w4 ⟨R2, c2, h2, rfl, hr4, hb4⟩
    have hsl := sortedCd_len (groupC cs) h2
    have he := equalCodes_any R R2 c c2 (sortedCd (groupC cs) h2) w4 (by rw [hsl]; exact HR3.out.bl hb4) (by rw [hsl]; exact hr4) (by rw [hsl]; have := HG.out; have := HL.out; omega)
    rw [hsl] at he
    have He := Lib.hid he
    have hbf := hb13.trans hb4
    clear he hr4 hb4 hsl
    go_wp2_with fail
    refine He.out.mono ?_
    rintro e w5 ⟨rfl, hb5⟩
    go_wp2_with fail
    go_ret
    exact ⟨rfl, hbf.trans hb5⟩

end Go.Proofs.YtjelhdpcaileiaaDoor
