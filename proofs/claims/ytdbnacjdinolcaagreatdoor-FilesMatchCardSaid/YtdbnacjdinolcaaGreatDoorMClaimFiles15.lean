/- bedref2.UnpackedBits. -/
import Derived.Test.YtdbnacjdinolcaaGreatDoorMClaimFiles14

namespace Go.Proofs.YtdbnacjdinolcaaGreatDoor
open Go.RowKit Go.Shelf

def spJ (W : Nat) (r : List UInt8) (j : Nat) : Bool := decide (j % longOf W = longOf W - 1) && (decide (W % 8 ≠ 0) && decide ((r.getD j 0).toNat &&& 255 / 2 ^ (W % 8) ≠ 0))
theorem spare_all {W : Nat} {r : List UInt8} (h : ∀ j, j < r.length → spJ W r j = false) : spareOk W r = true := by
  unfold spareOk
  rw [List.all_eq_true]
  intro j hj
  have := h j (List.mem_range.1 hj)
  unfold spJ at this
  rw [this]
  rfl
theorem spare_bad {W : Nat} {r : List UInt8} {j : Nat} (hj : j < r.length) (h : spJ W r j = true) : ¬ spareOk W r = true := by
  intro h2
  unfold spareOk at h2
  rw [List.all_eq_true] at h2
  have := h2 j (List.mem_range.2 hj)
  unfold spJ at h
  rw [h] at this
  cases this

set_option maxRecDepth 100000 in
set_option maxHeartbeats 4000000 in
theorem unpack_any (bs : List UInt8) (A : Option Addr) (n c : Nat) (w : World) (hA : BRow w A n c bs) (hN : NumOk w) (hC : CutOk w) (hl : n ≤ 9223372036854775807) :
    Calls Tryz.prog 16 #[.slice A n c] w (BitsAns (unpB bs) w) := by
  let w1 := (w).alloc (.cells #[.int .i64 0, .int .i64 0, .slice none 0 0] 27)
  have w1b : Bl w w1 := (Bl.refl w).alloc _
  have w11 : Blk w1 (w.heap.size) 27 #[.int .i64 0, .int .i64 0, .slice none 0 0] := by
    have h0 := Blk.new (w) 27 #[.int .i64 0, .int .i64 0, .slice none 0 0]
    exact h0
  have lw1 : w1.heap.size = w.heap.size + 1 := by simp [w1]
  have Lw1 := Lib.hid lw1
  have hB := behind_any p4K [] bs A n c w1 (hA.bl w1b) (hN.bl w1b) (hC.bl w1b) hl (by decide) (by decide)
  obtain ⟨E, hE⟩ : ∃ E, E = fileErr p4K [] bs := ⟨_, rfl⟩
  have hB' : Calls Tryz.prog 45 #[.slice A n c, .string ⟨#[80, 52]⟩, .string ⟨#[]⟩] w1 (Behind p4K [] bs w1) := hB
  unfold Behind at hB'
  rw [← hE] at hB'
  have HB' := Lib.hid hB'
  have HE := Lib.hid hE
  have HBl := Lib.hid hA.len
  clear hA hN hC hB hB' hE lw1
  by_cases he : E = 0
  · have hq : (E != 0) = false := by simp [he]
    obtain ⟨hlen, W, H, rest, hhd⟩ := fileErr_zero (HE.out.symm.trans he)
    obtain ⟨⟨a1, a2⟩, ⟨a3, a4⟩, hcan⟩ := headP_iff.1 hhd
    have hrl : rest.length ≤ 1048606 := by
      have : rest.length ≤ bs.length := by rw [hcan]; unfold canonF; simp only [List.length_append, List.length_cons]; omega
      omega
    have hUB := unpB_head hlen hhd
    obtain ⟨L, hL⟩ : ∃ L, L = longOf W := ⟨_, rfl⟩
    have e1 : ((W : Int) + 7) / 8 = (L : Int) := by rw [hL]; unfold longOf; omega
    have hL1 : 1 ≤ L := by rw [hL]; exact longOf_pos a1
    have hL2 : L ≤ 1250 := by rw [hL]; unfold longOf; omega
    have hLp : ¬ (L = 0) := by omega
    have hLHb : L * H ≤ 1250 * 9999 := Nat.mul_le_mul hL2 a4
    have hLi : (0 : Int) ≤ (L : Int) * (H : Int) ∧ (L : Int) * (H : Int) ≤ 12498750 := by have := Int.natCast_mul L H; omega
    obtain ⟨S, hS⟩ : ∃ S, S = sizeErr W H := ⟨_, rfl⟩
    have hck := fun w => checkSize_any W H w
    rw [← hS] at hck hUB
    have Hck := Lib.hid hck
    have HS := Lib.hid hS
    have HUB := Lib.hid hUB
    have Hhd := Lib.hid hhd
    have He := Lib.hid he
    have HL := Lib.hid hL
    have Hrl := Lib.hid hrl
    clear hck hS hUB hhd he hLHb hcan hL hrl
    go_enter Tryz.func16, Tryz.ntmps16
    go_wp2_with (go_at_call 45; refine HB'.out.mono ?_; rintro e w2 ⟨v1, v2, A2, n2, c2, rfl, hres, hb2⟩; refine Hid.out ?_)
    refine Lib.hid ?_
    obtain ⟨rfl, rfl, hrow⟩ := hres W H rest Hhd.out He.out
    have hn2 := hrow.len
    have b7 := Blk.new w2 22 #[.slice A2 n2 c2]
    have hb7 : Bl w1 (w2.alloc (.cells #[.slice A2 n2 c2] 22)) := hb2.alloc _
    have hr7 := hrow.1.bl ((Bl.refl w2).alloc (.cells #[.slice A2 n2 c2] 22))
    have hlt7 : w.heap.size < w2.heap.size := by have := hb2.le; have := Lw1.out; omega
    have Hlt7 := Lib.hid hlt7
    have Hr7 := Lib.hid hr7
    have Hn2 := Lib.hid hn2
    clear hrow hn2 hres hr7 hlt7
    go_upto_region 2 with fail
    generalize hgr : w2.heap.size = gr at b7 Hlt7 ⊢
    generalize hw7 : w2.alloc (.cells #[.slice A2 n2 c2] 22) = w7 at b7 hb7 Hr7 ⊢
    clear hgr hw7 hb2
    go_upto_region 5 with fail
    rw [e1]
    have E1 := Lib.hid e1
    have b8 := Blk.new w7 3 #[.int .i64 (L : Int)]
    have hb78 : Bl w7 (w7.alloc (.cells #[.int .i64 (L : Int)] 3)) := (Bl.refl w7).alloc _
    have Hlt8 := Lib.hid (show w.heap.size < w7.heap.size by have := b7.lt; have := Hlt7.out; omega)
    generalize hgl : w7.heap.size = gl at b8 Hlt8 ⊢
    generalize hw8 : w7.alloc (.cells #[.int .i64 (L : Int)] 3) = w8 at b8 hb78 ⊢
    have hb18 := hb7.trans hb78
    have b7' := b7.bl hb78
    have Hr8 := Lib.hid (Hr7.out.bl hb78)
    clear hgl hw8 e1 b7 hb7 hb78 Hr7
    have kr := (w11.bl hb18).all3
    have k7 := b7'.all1
    have k8 := b8.all1
    by_cases hlw : n2 = L * H
    · have hq2 : ((n2 : Int) != (L : Int) * (H : Int)) = false := by rw [hlw]; simp
      have Hlw := Lib.hid hlw
      have hnb : n2 ≤ 1048606 := by have := Hrl.out; have := Hn2.out; omega
      clear hlw
      go_wp2_with fail
      go_loopw [35] (fun u wr => ∃ i : Nat, i ≤ n2 ∧ u = .int .i64 i ∧ Bl w8 wr ∧ Hid (∀ j, j < i → spJ W rest j = false)) (fun u _ => n2 - (intOf u).toNat)
      case atStart => exact ⟨0, Nat.zero_le _, rfl, Bl.refl _, Lib.hid fun j hj => absurd hj (by omega)⟩
      case round =>
        clear kr k7 k8
        obtain ⟨i, hi, rfl, hbr, hz⟩ := hrel
        have kr := (w11.bl (hb18.trans hbr)).all3
        have k7 := (b7'.bl hbr).all1
        have k8 := (b8.bl hbr).all1
        by_cases hlt : i < n2
        · obtain ⟨ad, rfl, hcell⟩ := bit_cell (Hr8.out.bl hbr) hlt
          obtain ⟨v, hv⟩ : ∃ v, v = (rest.getD i 0).toNat := ⟨_, rfl⟩
          have hv256 : v < 256 := by rw [hv]; exact UInt8.toNat_lt _
          obtain ⟨ii, hii⟩ : ∃ x, x = i % L := ⟨_, rfl⟩
          obtain ⟨ww, hww⟩ : ∃ x, x = W % 8 := ⟨_, rfl⟩
          have e2 : (i : Int) % (L : Int) = (ii : Int) := by rw [hii]; simp
          have e3 : (W : Int) % 8 = (ww : Int) := by rw [hww]; simp
          have hw8' : ww < 8 := by rw [hww]; exact Nat.mod_lt _ (by decide)
          have hiL : ii < L := by rw [hii]; exact Nat.mod_lt _ hL1
          have hsp : spJ W rest i = (decide (ii = L - 1) && (decide (ww ≠ 0) && decide (v &&& 255 / 2 ^ ww ≠ 0))) := by unfold spJ; rw [hii, hww, hv, HL.out]
          rw [← hv] at hcell
          have Hsp := Lib.hid hsp
          have hil : (i : Int) < (n2 : Int) := by omega
          clear hv hii hww hsp
          have next : spJ W rest i = false → Hid (∀ j, j < i + 1 → spJ W rest j = false) := fun h => Lib.hid fun j hj => by
            rcases Nat.lt_or_ge j i with h' | h'
            · exact hz.out j h'
            · obtain rfl : j = i := by omega
              exact h
          have Next := Lib.hid next
          clear next hz
          by_cases hc1 : ii = L - 1
          · have q1 : ((ii : Int) == (L : Int) - 1) = true := by rw [beq_iff_eq]; omega
            by_cases hc2 : ww = 0
            · have q2 : ((ww : Int) != 0) = false := by rw [hc2]; rfl
              have Hf := Next.out (by rw [Hsp.out, decide_eq_false (show ¬ ww ≠ 0 by omega), Bool.false_and, Bool.and_false])
              clear hc1 hc2
              go_wp2_with fail
              refine wp_region_flow [(true, 0), (true, 1), (true, 2), (true, 3), (true, 4), (true, 5), (true, 6), (true, 7), (true, 8), (true, 9), (true, 10), (true, 11), (true, 12), (true, 13), (true, 14), (true, 15), (true, 16), (true, 17), (true, 18)] (fun _ => false) (by kernel_rfl) (by kernel_rfl) (by kernel_rfl) (by kernel_rfl) ?_
              iterate 1
                apply Flow.mv _ rfl
                · intro K' hK'
                  simp only [Act.put, Act.eval, List.setIfInBounds_toArray, List.set_cons_zero, List.set_cons_succ, arr_getD, List.getD_cons_zero, List.getD_cons_succ]
                  exact hK'
              iterate 1
                apply Flow.calm2 _ _ rfl rfl
                · intro w' hb' K' hK'
                  obtain ⟨hc', hf'⟩ := hb'.rule
                  go_simp
                  try go_ints
                  exact hK'
                · intro K' hK'
                  simp only [Act.put, List.setIfInBounds_toArray, List.set_cons_zero, List.set_cons_succ]
                  exact hK'
              iterate 1
                apply Flow.calm2 _ _ rfl rfl
                · intro w' hb' K' hK'
                  obtain ⟨hc', hf'⟩ := hb'.rule
                  go_simp
                  try go_ints
                  exact hK'
                · intro K' hK'
                  simp only [Act.put, List.setIfInBounds_toArray, List.set_cons_zero, List.set_cons_succ]
                  exact hK'
              iterate 1
                apply Flow.calm2 _ _ rfl rfl
                · intro w' hb' K' hK'
                  obtain ⟨hc', hf'⟩ := hb'.rule
                  go_simp
                  try go_ints
                  exact hK'
                · intro K' hK'
                  simp only [Act.put, List.setIfInBounds_toArray, List.set_cons_zero, List.set_cons_succ]
                  exact hK'
              iterate 2
                apply Flow.calm2 _ _ rfl rfl
                · intro w' hb' K' hK'
                  obtain ⟨hc', hf'⟩ := hb'.rule
                  go_simp
                  try go_ints
                  exact hK'
                · intro K' hK'
                  simp only [Act.put, List.setIfInBounds_toArray, List.set_cons_zero, List.set_cons_succ]
                  exact hK'
              iterate 1
                apply Flow.mv _ rfl
                · intro K' hK'
                  simp only [Act.put, Act.eval, List.setIfInBounds_toArray, List.set_cons_zero, List.set_cons_succ, arr_getD, List.getD_cons_zero, List.getD_cons_succ]
                  exact hK'
              first
                | (apply Flow.pass rfl (by rfl))
                | (apply Flow.calmG _ rfl (by rfl)
                   · intro w' hb'
                     obtain ⟨hc', hf'⟩ := hb'.rule
                     go_simp
                     all_goals (try rfl))
              simp only [Act.put, List.setIfInBounds_toArray, List.set_cons_zero, List.set_cons_succ]
              try go_ints
              first
                | (apply Flow.pass rfl (by rfl))
                | (apply Flow.calmG _ rfl (by rfl)
                   · intro w' hb'
                     obtain ⟨hc', hf'⟩ := hb'.rule
                     go_simp
                     all_goals (try rfl))
              simp only [Act.put, List.setIfInBounds_toArray, List.set_cons_zero, List.set_cons_succ]
              try go_ints
              first
                | (apply Flow.pass rfl (by rfl))
                | (apply Flow.calmG _ rfl (by rfl)
                   · intro w' hb'
                     obtain ⟨hc', hf'⟩ := hb'.rule
                     go_simp
                     all_goals (try rfl))
              simp only [Act.put, List.setIfInBounds_toArray, List.set_cons_zero, List.set_cons_succ]
              try go_ints
              iterate 1
                apply Flow.calm2 _ _ rfl rfl
                · intro w' hb' K' hK'
                  obtain ⟨hc', hf'⟩ := hb'.rule
                  go_simp
                  try go_ints
                  exact hK'
                · intro K' hK'
                  simp only [Act.put, List.setIfInBounds_toArray, List.set_cons_zero, List.set_cons_succ]
                  exact hK'
              iterate 1
                apply Flow.mv _ rfl
                · intro K' hK'
                  simp only [Act.put, Act.eval, List.setIfInBounds_toArray, List.set_cons_zero, List.set_cons_succ, arr_getD, List.getD_cons_zero, List.getD_cons_succ]
                  exact hK'
              first
                | (apply Flow.pass rfl (by rfl))
                | (apply Flow.calmG _ rfl (by rfl)
                   · intro w' hb'
                     obtain ⟨hc', hf'⟩ := hb'.rule
                     go_simp
                     all_goals (try rfl))
              simp only [Act.put, List.setIfInBounds_toArray, List.set_cons_zero, List.set_cons_succ]
              try go_ints
              first
                | (apply Flow.pass rfl (by rfl))
                | (apply Flow.calmG _ rfl (by rfl)
                   · intro w' hb'
                     obtain ⟨hc', hf'⟩ := hb'.rule
                     go_simp
                     all_goals (try rfl))
              simp only [Act.put, List.setIfInBounds_toArray, List.set_cons_zero, List.set_cons_succ]
              try go_ints
              first
                | (apply Flow.pass rfl (by rfl))
                | (apply Flow.calmG _ rfl (by rfl)
                   · intro w' hb'
                     obtain ⟨hc', hf'⟩ := hb'.rule
                     go_simp
                     all_goals (try rfl))
              simp only [Act.put, List.setIfInBounds_toArray, List.set_cons_zero, List.set_cons_succ]
              try go_ints
              first
                | (apply Flow.pass rfl (by rfl))
                | (apply Flow.calmG _ rfl (by rfl)
                   · intro w' hb'
                     obtain ⟨hc', hf'⟩ := hb'.rule
                     go_simp
                     all_goals (try rfl))
              simp only [Act.put, List.setIfInBounds_toArray, List.set_cons_zero, List.set_cons_succ]
              try go_ints
              first
                | (apply Flow.pass rfl (by rfl))
                | (apply Flow.calmG _ rfl (by rfl)
                   · intro w' hb'
                     obtain ⟨hc', hf'⟩ := hb'.rule
                     go_simp
                     all_goals (try rfl))
              simp only [Act.put, List.setIfInBounds_toArray, List.set_cons_zero, List.set_cons_succ]
              try go_ints
              first
                | (apply Flow.pass rfl (by rfl))
                | (apply Flow.calmG _ rfl (by rfl)
                   · intro w' hb'
                     obtain ⟨hc', hf'⟩ := hb'.rule
                     go_simp
                     all_goals (try rfl))
              simp only [Act.put, List.setIfInBounds_toArray, List.set_cons_zero, List.set_cons_succ]
              try go_ints
              iterate 1
                apply Flow.calm2 _ _ rfl rfl
                · intro w' hb' K' hK'
                  obtain ⟨hc', hf'⟩ := hb'.rule
                  go_simp
                  try go_ints
                  exact hK'
                · intro K' hK'
                  simp only [Act.put, List.setIfInBounds_toArray, List.set_cons_zero, List.set_cons_succ]
                  exact hK'
              refine Flow.done ?_
              go_wp2_with fail
              exact ⟨⟨i + 1, hlt, by go_num, hbr.drew, Hf⟩, by simp [intOf]; omega⟩
            · have q2 : ((ww : Int) != 0) = true := by rw [bne_iff_ne]; omega
              obtain ⟨q, hq5⟩ : ∃ q, q = v &&& 255 / 2 ^ ww := ⟨_, rfl⟩
              have hand : bits .and .u8 (v : Int) (255 / 2 ^ ww : Int) = (q : Int) := by
                have e : (255 / 2 ^ ww : Int) = ((255 / 2 ^ ww : Nat) : Int) := by simp
                rw [e, u8_and_nat v _ hv256 (Nat.lt_of_le_of_lt (Nat.div_le_self _ _) (by decide)), hq5]
              by_cases hc3 : q = 0
              · have q3 : ((q : Int) != 0) = false := by rw [hc3]; rfl
                have Hf := Next.out (by rw [Hsp.out, ← hq5, decide_eq_false (show ¬ q ≠ 0 by omega), Bool.and_false, Bool.and_false])
                clear hc1 hc2 hc3 hq5
                go_wp2_with fail
                refine wp_region_flow [(true, 0), (true, 1), (true, 2), (true, 3), (true, 4), (true, 5), (true, 6), (true, 7), (true, 8), (true, 9), (true, 10), (true, 11), (true, 12), (true, 13), (true, 14), (true, 15), (true, 16), (true, 17), (true, 18)] (fun _ => false) (by kernel_rfl) (by kernel_rfl) (by kernel_rfl) (by kernel_rfl) ?_
                iterate 1
                  apply Flow.mv _ rfl
                  · intro K' hK'
                    simp only [Act.put, Act.eval, List.setIfInBounds_toArray, List.set_cons_zero, List.set_cons_succ, arr_getD, List.getD_cons_zero, List.getD_cons_succ]
                    exact hK'
                iterate 1
                  apply Flow.calm2 _ _ rfl rfl
                  · intro w' hb' K' hK'
                    obtain ⟨hc', hf'⟩ := hb'.rule
                    go_simp
                    try go_ints
                    exact hK'
                  · intro K' hK'
                    simp only [Act.put, List.setIfInBounds_toArray, List.set_cons_zero, List.set_cons_succ]
                    exact hK'
                iterate 1
                  apply Flow.calm2 _ _ rfl rfl
                  · intro w' hb' K' hK'
                    obtain ⟨hc', hf'⟩ := hb'.rule
                    go_simp
                    try go_ints
                    exact hK'
                  · intro K' hK'
                    simp only [Act.put, List.setIfInBounds_toArray, List.set_cons_zero, List.set_cons_succ]
                    exact hK'
                iterate 1
                  apply Flow.calm2 _ _ rfl rfl
                  · intro w' hb' K' hK'
                    obtain ⟨hc', hf'⟩ := hb'.rule
                    go_simp
                    try go_ints
                    exact hK'
                  · intro K' hK'
                    simp only [Act.put, List.setIfInBounds_toArray, List.set_cons_zero, List.set_cons_succ]
                    exact hK'
                iterate 2
                  apply Flow.calm2 _ _ rfl rfl
                  · intro w' hb' K' hK'
                    obtain ⟨hc', hf'⟩ := hb'.rule
                    go_simp
                    try go_ints
                    exact hK'
                  · intro K' hK'
                    simp only [Act.put, List.setIfInBounds_toArray, List.set_cons_zero, List.set_cons_succ]
                    exact hK'
                iterate 1
                  apply Flow.mv _ rfl
                  · intro K' hK'
                    simp only [Act.put, Act.eval, List.setIfInBounds_toArray, List.set_cons_zero, List.set_cons_succ, arr_getD, List.getD_cons_zero, List.getD_cons_succ]
                    exact hK'
                first
                  | (apply Flow.pass rfl (by rfl))
                  | (apply Flow.calmG _ rfl (by rfl)
                     · intro w' hb'
                       obtain ⟨hc', hf'⟩ := hb'.rule
                       go_simp
                       all_goals (try rfl))
                simp only [Act.put, List.setIfInBounds_toArray, List.set_cons_zero, List.set_cons_succ]
                try go_ints
                first
                  | (apply Flow.pass rfl (by rfl))
                  | (apply Flow.calmG _ rfl (by rfl)
                     · intro w' hb'
                       obtain ⟨hc', hf'⟩ := hb'.rule
                       go_simp
                       all_goals (try rfl))
                simp only [Act.put, List.setIfInBounds_toArray, List.set_cons_zero, List.set_cons_succ]
                try go_ints
                first
                  | (apply Flow.pass rfl (by rfl))
                  | (apply Flow.calmG _ rfl (by rfl)
                     · intro w' hb'
                       obtain ⟨hc', hf'⟩ := hb'.rule
                       go_simp
                       all_goals (try rfl))
                simp only [Act.put, List.setIfInBounds_toArray, List.set_cons_zero, List.set_cons_succ]
                try go_ints
                iterate 1
                  apply Flow.calm2 _ _ rfl rfl
                  · intro w' hb' K' hK'
                    obtain ⟨hc', hf'⟩ := hb'.rule
                    go_simp
                    try go_ints
                    exact hK'
                  · intro K' hK'
                    simp only [Act.put, List.setIfInBounds_toArray, List.set_cons_zero, List.set_cons_succ]
                    exact hK'
                iterate 1
                  apply Flow.mv _ rfl
                  · intro K' hK'
                    simp only [Act.put, Act.eval, List.setIfInBounds_toArray, List.set_cons_zero, List.set_cons_succ, arr_getD, List.getD_cons_zero, List.getD_cons_succ]
                    exact hK'
                first
                  | (apply Flow.pass rfl (by rfl))
                  | (apply Flow.calmG _ rfl (by rfl)
                     · intro w' hb'
                       obtain ⟨hc', hf'⟩ := hb'.rule
                       go_simp
                       all_goals (try rfl))
                simp only [Act.put, List.setIfInBounds_toArray, List.set_cons_zero, List.set_cons_succ]
                try go_ints
                first
                  | (apply Flow.pass rfl (by rfl))
                  | (apply Flow.calmG _ rfl (by rfl)
                     · intro w' hb'
                       obtain ⟨hc', hf'⟩ := hb'.rule
                       go_simp
                       all_goals (try rfl))
                simp only [Act.put, List.setIfInBounds_toArray, List.set_cons_zero, List.set_cons_succ]
                try go_ints
                first
                  | (apply Flow.pass rfl (by rfl))
                  | (apply Flow.calmG _ rfl (by rfl)
                     · intro w' hb'
                       obtain ⟨hc', hf'⟩ := hb'.rule
                       go_simp
                       all_goals (try rfl))
                simp only [Act.put, List.setIfInBounds_toArray, List.set_cons_zero, List.set_cons_succ]
                try go_ints
                first
                  | (apply Flow.pass rfl (by rfl))
                  | (apply Flow.calmG _ rfl (by rfl)
                     · intro w' hb'
                       obtain ⟨hc', hf'⟩ := hb'.rule
                       go_simp
                       all_goals (try rfl))
                simp only [Act.put, List.setIfInBounds_toArray, List.set_cons_zero, List.set_cons_succ]
                try go_ints
                first
                  | (apply Flow.pass rfl (by rfl))
                  | (apply Flow.calmG _ rfl (by rfl)
                     · intro w' hb'
                       obtain ⟨hc', hf'⟩ := hb'.rule
                       go_simp
                       all_goals (try rfl))
                simp only [Act.put, List.setIfInBounds_toArray, List.set_cons_zero, List.set_cons_succ]
                try go_ints
                first
                  | (apply Flow.pass rfl (by rfl))
                  | (apply Flow.calmG _ rfl (by rfl)
                     · intro w' hb'
                       obtain ⟨hc', hf'⟩ := hb'.rule
                       go_simp
                       all_goals (try rfl))
                simp only [Act.put, List.setIfInBounds_toArray, List.set_cons_zero, List.set_cons_succ]
                try go_ints
                iterate 1
                  apply Flow.calm2 _ _ rfl rfl
                  · intro w' hb' K' hK'
                    obtain ⟨hc', hf'⟩ := hb'.rule
                    go_simp
                    try go_ints
                    exact hK'
                  · intro K' hK'
                    simp only [Act.put, List.setIfInBounds_toArray, List.set_cons_zero, List.set_cons_succ]
                    exact hK'
                refine Flow.done ?_
                go_wp2_with fail
                exact ⟨⟨i + 1, hlt, by go_num, hbr.drew, Hf⟩, by simp [intOf]; omega⟩
              · have q3 : ((q : Int) != 0) = true := by rw [bne_iff_ne]; omega
                have Hbad := Lib.hid (spare_bad (W := W) (r := rest) (j := i) (by rw [Hn2.out]; exact hlt) (by rw [Hsp.out, ← hq5, decide_eq_true hc1, decide_eq_true hc2, decide_eq_true hc3]; rfl))
                clear hc1 hc2 hc3 hq5
                go_wp2_with fail
                refine wp_region_flow [(true, 0), (true, 1), (true, 2), (true, 3), (true, 4), (true, 5), (true, 6), (true, 7), (true, 8), (true, 9), (true, 10), (true, 11), (true, 12), (true, 13), (true, 14), (true, 15), (true, 16), (true, 17), (true, 18)] (fun _ => false) (by kernel_rfl) (by kernel_rfl) (by kernel_rfl) (by kernel_rfl) ?_
                iterate 1
                  apply Flow.mv _ rfl
                  · intro K' hK'
                    simp only [Act.put, Act.eval, List.setIfInBounds_toArray, List.set_cons_zero, List.set_cons_succ, arr_getD, List.getD_cons_zero, List.getD_cons_succ]
                    exact hK'
                iterate 1
                  apply Flow.calm2 _ _ rfl rfl
                  · intro w' hb' K' hK'
                    obtain ⟨hc', hf'⟩ := hb'.rule
                    go_simp
                    try go_ints
                    exact hK'
                  · intro K' hK'
                    simp only [Act.put, List.setIfInBounds_toArray, List.set_cons_zero, List.set_cons_succ]
                    exact hK'
                iterate 1
                  apply Flow.calm2 _ _ rfl rfl
                  · intro w' hb' K' hK'
                    obtain ⟨hc', hf'⟩ := hb'.rule
                    go_simp
                    try go_ints
                    exact hK'
                  · intro K' hK'
                    simp only [Act.put, List.setIfInBounds_toArray, List.set_cons_zero, List.set_cons_succ]
                    exact hK'
                iterate 1
                  apply Flow.calm2 _ _ rfl rfl
                  · intro w' hb' K' hK'
                    obtain ⟨hc', hf'⟩ := hb'.rule
                    go_simp
                    try go_ints
                    exact hK'
                  · intro K' hK'
                    simp only [Act.put, List.setIfInBounds_toArray, List.set_cons_zero, List.set_cons_succ]
                    exact hK'
                iterate 2
                  apply Flow.calm2 _ _ rfl rfl
                  · intro w' hb' K' hK'
                    obtain ⟨hc', hf'⟩ := hb'.rule
                    go_simp
                    try go_ints
                    exact hK'
                  · intro K' hK'
                    simp only [Act.put, List.setIfInBounds_toArray, List.set_cons_zero, List.set_cons_succ]
                    exact hK'
                iterate 1
                  apply Flow.mv _ rfl
                  · intro K' hK'
                    simp only [Act.put, Act.eval, List.setIfInBounds_toArray, List.set_cons_zero, List.set_cons_succ, arr_getD, List.getD_cons_zero, List.getD_cons_succ]
                    exact hK'
                first
                  | (apply Flow.pass rfl (by rfl))
                  | (apply Flow.calmG _ rfl (by rfl)
                     · intro w' hb'
                       obtain ⟨hc', hf'⟩ := hb'.rule
                       go_simp
                       all_goals (try rfl))
                simp only [Act.put, List.setIfInBounds_toArray, List.set_cons_zero, List.set_cons_succ]
                try go_ints
                first
                  | (apply Flow.pass rfl (by rfl))
                  | (apply Flow.calmG _ rfl (by rfl)
                     · intro w' hb'
                       obtain ⟨hc', hf'⟩ := hb'.rule
                       go_simp
                       all_goals (try rfl))
                simp only [Act.put, List.setIfInBounds_toArray, List.set_cons_zero, List.set_cons_succ]
                try go_ints
                first
                  | (apply Flow.pass rfl (by rfl))
                  | (apply Flow.calmG _ rfl (by rfl)
                     · intro w' hb'
                       obtain ⟨hc', hf'⟩ := hb'.rule
                       go_simp
                       all_goals (try rfl))
                simp only [Act.put, List.setIfInBounds_toArray, List.set_cons_zero, List.set_cons_succ]
                try go_ints
                iterate 1
                  apply Flow.calm2 _ _ rfl rfl
                  · intro w' hb' K' hK'
                    obtain ⟨hc', hf'⟩ := hb'.rule
                    go_simp
                    try go_ints
                    exact hK'
                  · intro K' hK'
                    simp only [Act.put, List.setIfInBounds_toArray, List.set_cons_zero, List.set_cons_succ]
                    exact hK'
                iterate 1
                  apply Flow.mv _ rfl
                  · intro K' hK'
                    simp only [Act.put, Act.eval, List.setIfInBounds_toArray, List.set_cons_zero, List.set_cons_succ, arr_getD, List.getD_cons_zero, List.getD_cons_succ]
                    exact hK'
                first
                  | (apply Flow.pass rfl (by rfl))
                  | (apply Flow.calmG _ rfl (by rfl)
                     · intro w' hb'
                       obtain ⟨hc', hf'⟩ := hb'.rule
                       go_simp
                       all_goals (try rfl))
                simp only [Act.put, List.setIfInBounds_toArray, List.set_cons_zero, List.set_cons_succ]
                try go_ints
                first
                  | (apply Flow.pass rfl (by rfl))
                  | (apply Flow.calmG _ rfl (by rfl)
                     · intro w' hb'
                       obtain ⟨hc', hf'⟩ := hb'.rule
                       go_simp
                       all_goals (try rfl))
                simp only [Act.put, List.setIfInBounds_toArray, List.set_cons_zero, List.set_cons_succ]
                try go_ints
                first
                  | (apply Flow.pass rfl (by rfl))
                  | (apply Flow.calmG _ rfl (by rfl)
                     · intro w' hb'
                       obtain ⟨hc', hf'⟩ := hb'.rule
                       go_simp
                       all_goals (try rfl))
                simp only [Act.put, List.setIfInBounds_toArray, List.set_cons_zero, List.set_cons_succ]
                try go_ints
                first
                  | (apply Flow.pass rfl (by rfl))
                  | (apply Flow.calmG _ rfl (by rfl)
                     · intro w' hb'
                       obtain ⟨hc', hf'⟩ := hb'.rule
                       go_simp
                       all_goals (try rfl))
                simp only [Act.put, List.setIfInBounds_toArray, List.set_cons_zero, List.set_cons_succ]
                try go_ints
                first
                  | (apply Flow.pass rfl (by rfl))
                  | (apply Flow.calmG _ rfl (by rfl)
                     · intro w' hb'
                       obtain ⟨hc', hf'⟩ := hb'.rule
                       go_simp
                       all_goals (try rfl))
                simp only [Act.put, List.setIfInBounds_toArray, List.set_cons_zero, List.set_cons_succ]
                try go_ints
                first
                  | (apply Flow.pass rfl (by rfl))
                  | (apply Flow.calmG _ rfl (by rfl)
                     · intro w' hb'
                       obtain ⟨hc', hf'⟩ := hb'.rule
                       go_simp
                       all_goals (try rfl))
                simp only [Act.put, List.setIfInBounds_toArray, List.set_cons_zero, List.set_cons_succ]
                try go_ints
                iterate 1
                  apply Flow.calm2 _ _ rfl rfl
                  · intro w' hb' K' hK'
                    obtain ⟨hc', hf'⟩ := hb'.rule
                    go_simp
                    try go_ints
                    exact hK'
                  · intro K' hK'
                    simp only [Act.put, List.setIfInBounds_toArray, List.set_cons_zero, List.set_cons_succ]
                    exact hK'
                refine Flow.done ?_
                go_wp2_with fail
                refine bodyPost_ret (v := .tuple #[.agg #[.int .i64 0, .int .i64 0, .slice none 0 0], .int .i64 8]) (by simp [results, Tryz.results16, go_sem, kr]) rfl ?_
                refine bitsAns_bad ?_ ((((w1b.trans (hb18.trans hbr.drew)).setCell (Nat.le_refl _) _).setCell (Nat.le_refl _) _).setCell (Nat.le_refl _) _)
                rw [HUB.out, Hn2.out, ← HL.out, if_pos Hlw.out, if_neg Hbad.out]
          · have q1 : ((ii : Int) == (L : Int) - 1) = false := by rw [beq_eq_false_iff_ne]; omega
            have Hf := Next.out (by rw [Hsp.out, decide_eq_false hc1, Bool.false_and])
            clear hc1
            go_wp2_with fail
            refine wp_region_flow [(true, 0), (true, 1), (true, 2), (true, 3), (true, 4), (true, 5), (true, 6), (true, 7), (true, 8), (true, 9), (true, 10), (true, 11), (true, 12), (true, 13), (true, 14), (true, 15), (true, 16), (true, 17), (true, 18)] (fun _ => false) (by kernel_rfl) (by kernel_rfl) (by kernel_rfl) (by kernel_rfl) ?_
            iterate 1
              apply Flow.mv _ rfl
              · intro K' hK'
                simp only [Act.put, Act.eval, List.setIfInBounds_toArray, List.set_cons_zero, List.set_cons_succ, arr_getD, List.getD_cons_zero, List.getD_cons_succ]
                exact hK'
            iterate 1
              apply Flow.calm2 _ _ rfl rfl
              · intro w' hb' K' hK'
                obtain ⟨hc', hf'⟩ := hb'.rule
                go_simp
                try go_ints
                exact hK'
              · intro K' hK'
                simp only [Act.put, List.setIfInBounds_toArray, List.set_cons_zero, List.set_cons_succ]
                exact hK'
            iterate 1
              apply Flow.calm2 _ _ rfl rfl
              · intro w' hb' K' hK'
                obtain ⟨hc', hf'⟩ := hb'.rule
                go_simp
                try go_ints
                exact hK'
              · intro K' hK'
                simp only [Act.put, List.setIfInBounds_toArray, List.set_cons_zero, List.set_cons_succ]
                exact hK'
            iterate 1
              apply Flow.calm2 _ _ rfl rfl
              · intro w' hb' K' hK'
                obtain ⟨hc', hf'⟩ := hb'.rule
                go_simp
                try go_ints
                exact hK'
              · intro K' hK'
                simp only [Act.put, List.setIfInBounds_toArray, List.set_cons_zero, List.set_cons_succ]
                exact hK'
            iterate 2
              apply Flow.calm2 _ _ rfl rfl
              · intro w' hb' K' hK'
                obtain ⟨hc', hf'⟩ := hb'.rule
                go_simp
                try go_ints
                exact hK'
              · intro K' hK'
                simp only [Act.put, List.setIfInBounds_toArray, List.set_cons_zero, List.set_cons_succ]
                exact hK'
            iterate 1
              apply Flow.mv _ rfl
              · intro K' hK'
                simp only [Act.put, Act.eval, List.setIfInBounds_toArray, List.set_cons_zero, List.set_cons_succ, arr_getD, List.getD_cons_zero, List.getD_cons_succ]
                exact hK'
            first
              | (apply Flow.pass rfl (by rfl))
              | (apply Flow.calmG _ rfl (by rfl)
                 · intro w' hb'
                   obtain ⟨hc', hf'⟩ := hb'.rule
                   go_simp
                   all_goals (try rfl))
            simp only [Act.put, List.setIfInBounds_toArray, List.set_cons_zero, List.set_cons_succ]
            try go_ints
            first
              | (apply Flow.pass rfl (by rfl))
              | (apply Flow.calmG _ rfl (by rfl)
                 · intro w' hb'
                   obtain ⟨hc', hf'⟩ := hb'.rule
                   go_simp
                   all_goals (try rfl))
            simp only [Act.put, List.setIfInBounds_toArray, List.set_cons_zero, List.set_cons_succ]
            try go_ints
            first
              | (apply Flow.pass rfl (by rfl))
              | (apply Flow.calmG _ rfl (by rfl)
                 · intro w' hb'
                   obtain ⟨hc', hf'⟩ := hb'.rule
                   go_simp
                   all_goals (try rfl))
            simp only [Act.put, List.setIfInBounds_toArray, List.set_cons_zero, List.set_cons_succ]
            try go_ints
            iterate 1
              apply Flow.calm2 _ _ rfl rfl
              · intro w' hb' K' hK'
                obtain ⟨hc', hf'⟩ := hb'.rule
                go_simp
                try go_ints
                exact hK'
              · intro K' hK'
                simp only [Act.put, List.setIfInBounds_toArray, List.set_cons_zero, List.set_cons_succ]
                exact hK'
            iterate 1
              apply Flow.mv _ rfl
              · intro K' hK'
                simp only [Act.put, Act.eval, List.setIfInBounds_toArray, List.set_cons_zero, List.set_cons_succ, arr_getD, List.getD_cons_zero, List.getD_cons_succ]
                exact hK'
            first
              | (apply Flow.pass rfl (by rfl))
              | (apply Flow.calmG _ rfl (by rfl)
                 · intro w' hb'
                   obtain ⟨hc', hf'⟩ := hb'.rule
                   go_simp
                   all_goals (try rfl))
            simp only [Act.put, List.setIfInBounds_toArray, List.set_cons_zero, List.set_cons_succ]
            try go_ints
            first
              | (apply Flow.pass rfl (by rfl))
              | (apply Flow.calmG _ rfl (by rfl)
                 · intro w' hb'
                   obtain ⟨hc', hf'⟩ := hb'.rule
                   go_simp
                   all_goals (try rfl))
            simp only [Act.put, List.setIfInBounds_toArray, List.set_cons_zero, List.set_cons_succ]
            try go_ints
            first
              | (apply Flow.pass rfl (by rfl))
              | (apply Flow.calmG _ rfl (by rfl)
                 · intro w' hb'
                   obtain ⟨hc', hf'⟩ := hb'.rule
                   go_simp
                   all_goals (try rfl))
            simp only [Act.put, List.setIfInBounds_toArray, List.set_cons_zero, List.set_cons_succ]
            try go_ints
            first
              | (apply Flow.pass rfl (by rfl))
              | (apply Flow.calmG _ rfl (by rfl)
                 · intro w' hb'
                   obtain ⟨hc', hf'⟩ := hb'.rule
                   go_simp
                   all_goals (try rfl))
            simp only [Act.put, List.setIfInBounds_toArray, List.set_cons_zero, List.set_cons_succ]
            try go_ints
            first
              | (apply Flow.pass rfl (by rfl))
              | (apply Flow.calmG _ rfl (by rfl)
                 · intro w' hb'
                   obtain ⟨hc', hf'⟩ := hb'.rule
                   go_simp
                   all_goals (try rfl))
            simp only [Act.put, List.setIfInBounds_toArray, List.set_cons_zero, List.set_cons_succ]
            try go_ints
            first
              | (apply Flow.pass rfl (by rfl))
              | (apply Flow.calmG _ rfl (by rfl)
                 · intro w' hb'
                   obtain ⟨hc', hf'⟩ := hb'.rule
                   go_simp
                   all_goals (try rfl))
            simp only [Act.put, List.setIfInBounds_toArray, List.set_cons_zero, List.set_cons_succ]
            try go_ints
            iterate 1
              apply Flow.calm2 _ _ rfl rfl
              · intro w' hb' K' hK'
                obtain ⟨hc', hf'⟩ := hb'.rule
                go_simp
                try go_ints
                exact hK'
              · intro K' hK'
                simp only [Act.put, List.setIfInBounds_toArray, List.set_cons_zero, List.set_cons_succ]
                exact hK'
            refine Flow.done ?_
            go_wp2_with fail
            exact ⟨⟨i + 1, hlt, by go_num, hbr.drew, Hf⟩, by simp [intOf]; omega⟩
        · obtain rfl : i = n2 := by omega
          have Hgood := Lib.hid (spare_all (W := W) (r := rest) (fun j hj => hz.out j (by rw [← Hn2.out]; exact hj)))
          by_cases hs : S = 0
          · have hq3 : (S != 0) = false := by simp [hs]
            have hz2 := sizeErr_zero (HS.out.symm.trans hs)
            have hWH : W * H ≤ 1048576 := by have h1 := hz2.2.2.2.2; have := Int.natCast_mul W H; omega
            have Hs := Lib.hid hs
            have hpt := unpack1_paints gr gl A2 i c2 L W H rest wr (b7'.bl hbr) (b8.bl hbr) (Hr8.out.bl hbr) Hlw.out (by have := Hlw.out; omega) HL.out a2
            have hmd := made_any W H (bitF L rest) _ _ wr (by omega) (by omega) hWH hpt
            have Hmd := Lib.hid hmd
            clear hs hz2 hz hpt hmd
            go_wp2_with (go_at_call 46; refine (Hck.out _).mono ?_; rintro e w3 ⟨rfl, rfl⟩)
            go_wp2_with (go_at_call 50; refine Hmd.out.mono ?_; rintro e w4 ⟨v, rfl, hpg, hb4⟩; refine Hid.out ?_)
            refine Lib.hid ?_
            obtain ⟨A3, c3, rfl, hr3, hr3n⟩ := hpg
            have kr4 := (w11.bl ((hb18.trans hbr).trans hb4)).all3
            have hltr := (hb18.trans hbr).le
            have hlt4 : w.heap.size < wr.heap.size := by have := Lw1.out; omega
            have HR := Lib.hid hr3; have HRn := Lib.hid hr3n
            clear hr3 hr3n kr k7 k8
            go_wp2_with fail
            refine bodyPost_ret (v := .tuple #[.agg #[.int .i64 W, .int .i64 H, .slice A3 (W * H) c3], .int .i64 0]) (by simp [results, Tryz.results16, go_sem, kr4]) rfl ?_
            refine bitsAns_ok ?_ (((HR.out.store HRn.out hlt4 _).store HRn.out hlt4 _).store HRn.out hlt4 _) ?_
            · rw [HUB.out, Hn2.out, ← HL.out, if_pos Hlw.out, if_pos Hgood.out, if_pos Hs.out]
            · exact ((((w1b.trans (hb18.trans hbr)).trans hb4).setCell (Nat.le_refl _) _).setCell (Nat.le_refl _) _).setCell (Nat.le_refl _) _
          · have hq3 : (S != 0) = true := by simp [hs]
            have Hs := Lib.hid hs
            clear hs hz
            go_wp2_with (go_at_call 46; refine (Hck.out _).mono ?_; rintro e w3 ⟨rfl, rfl⟩)
            refine bodyPost_ret (v := .tuple #[.agg #[.int .i64 0, .int .i64 0, .slice none 0 0], .int .i64 S]) (by simp [results, Tryz.results16, go_sem, kr]) rfl ?_
            refine bitsAns_bad ?_ ((((w1b.trans (hb18.trans hbr)).setCell (Nat.le_refl _) _).setCell (Nat.le_refl _) _).setCell (Nat.le_refl _) _)
            rw [HUB.out, Hn2.out, ← HL.out, if_pos Hlw.out, if_pos Hgood.out, if_neg Hs.out]
    · have hq2 : ((n2 : Int) != (L : Int) * (H : Int)) = true := by rw [bne_iff_ne]; intro h; apply hlw; have := Int.natCast_mul L H; omega
      have Hlw := Lib.hid hlw
      clear hlw
      go_wp2_with fail
      refine bodyPost_ret (v := .tuple #[.agg #[.int .i64 0, .int .i64 0, .slice none 0 0], .int .i64 8]) (by simp [results, Tryz.results16, go_sem, kr]) rfl ?_
      refine bitsAns_bad ?_ ((((w1b.trans hb18).setCell (Nat.le_refl _) _).setCell (Nat.le_refl _) _).setCell (Nat.le_refl _) _)
      rw [HUB.out, Hn2.out, ← HL.out, if_neg Hlw.out]
  · have hq : (E != 0) = true := by simp [he]
    have HUB := Lib.hid (unpB_bad (f := bs) (by rw [← HE.out]; exact he))
    clear he
    go_enter Tryz.func16, Tryz.ntmps16
    go_wp2_with (go_at_call 45; refine HB'.out.mono ?_; rintro e w2 ⟨v1, v2, A2, n2, c2, rfl, hres, hb2⟩; refine Hid.out ?_)
    refine Lib.hid ?_
    have kr := (w11.bl (hb2.alloc (.cells #[.slice A2 n2 c2] 22))).all3
    clear hres
    go_wp2_with fail
    refine bodyPost_ret (v := .tuple #[.agg #[.int .i64 0, .int .i64 0, .slice none 0 0], .int .i64 E]) (by simp [results, Tryz.results16, go_sem, kr]) rfl ?_
    refine bitsAns_bad ?_ ((((w1b.trans (hb2.alloc _)).setCell (Nat.le_refl _) _).setCell (Nat.le_refl _) _).setCell (Nat.le_refl _) _)
    rw [HUB.out, ← HE.out]
end Go.Proofs.YtdbnacjdinolcaaGreatDoor


/-! bedref2.UnpackedBits. -/
namespace Go.Proofs.YtdbnacjdinolcaaGreatDoor
open Go.RowKit Go.Shelf

theorem canon_inj {kind tail a b : List UInt8} {w h : Nat} : canonF kind tail w h a = canonF kind tail w h b ↔ a = b := by
  rw [← headL_canon, ← headL_canon]
  exact List.append_cancel_left_eq _ _ _ |>.to_iff
theorem spare_dec {W H : Nat} {r bs : List UInt8} (hW : 1 ≤ W) (hr : r.length = longOf W * H) (hb : bs = canonF p4K [] W H r) : (canonF p4K [] W H (packB W H (grid W H (bitF (longOf W) r))) == bs) = spareOk W r := by
  rw [hb, Bool.eq_iff_iff, beq_iff_eq, canon_inj, pack_unpack hW hr, spareOk_iff]
set_option maxRecDepth 100000 in
set_option maxHeartbeats 1000000 in
theorem unpackR1_any (gr gl : Nat) (A : Option Addr) (n c L W H x y : Nat) (r : List UInt8) (w : World) (h1 : Blk w gr 22 #[.slice A n c]) (h2 : Blk w gl 3 #[.int .i64 L]) (hR : Reads w 1 A n (r.map encB)) (hn : n = L * H) (hLH : L * H ≤ 1048606) (hx : x < W) (hy : y < H) (hL : L = longOf W) :
    Calls Tryz.prog 56 #[.int .i64 x, .int .i64 y, .pointer (some ⟨gr, 0, none⟩), .pointer (some ⟨gl, 0, none⟩)] w fun e w' => e = .returned (.bool (bitF L r x y)) ∧ Bl w w' := by
  have k1 := h1.all1
  have k2 := h2.all1
  obtain ⟨cc, hcc⟩ : ∃ c, c = x / 8 := ⟨_, rfl⟩
  obtain ⟨rr, hrr⟩ : ∃ r, r = x % 8 := ⟨_, rfl⟩
  have hcL : cc < L := by rw [hcc, hL]; exact col_lt hx
  have hr8 : rr < 8 := by rw [hrr]; exact Nat.mod_lt _ (by decide)
  have e4 : (x : Int) / 8 = (cc : Int) := by rw [hcc]; simp
  have e5 : (x : Int) % 8 = (rr : Int) := by rw [hrr]; simp
  have hjL := place_lt (W := L) (H := H) hcL hy
  obtain ⟨ad, rfl, hcell⟩ := bit_cell hR (j := y * L + cc) (by omega)
  have hlt := World.block_lt_of_cell? w _ hcell
  obtain ⟨v, hv⟩ : ∃ v, v = (r.getD (y * L + cc) 0).toNat := ⟨_, rfl⟩
  have hv256 : v < 256 := by rw [hv]; exact UInt8.toNat_lt _
  have hbit : bitF L r x y = bitAt v rr := by unfold bitF; rw [← hcc, ← hrr, ← hv]
  rw [← hv] at hcell
  obtain ⟨j0, hj0⟩ : ∃ j, j = y * L + cc := ⟨_, rfl⟩
  rw [← hj0] at hcell hjL
  have e6 : (y : Int) * (L : Int) + (cc : Int) = (j0 : Int) := by rw [hj0]; simp
  have e7 : (0 : Int) ≤ (y : Int) * (L : Int) ∧ (y : Int) * (L : Int) ≤ 1048606 := by
    have h5 := Int.natCast_mul y L
    have h6 : y * L ≤ L * H := by rw [Nat.mul_comm]; exact Nat.mul_le_mul_left L (by omega)
    omega
  have e8 : (j0 : Int) < (n : Int) := by omega
  obtain ⟨kk, hkk⟩ : ∃ k, k = 7 - rr := ⟨_, rfl⟩
  have e9 : (7 : Int) - (rr : Int) = (kk : Int) := by omega
  have hk7 : kk ≤ 7 := by omega
  obtain ⟨u, hu⟩ : ∃ u, u = v / 2 ^ kk := ⟨_, rfl⟩
  have e10 : (v : Int) / 2 ^ kk = (u : Int) := by rw [hu]; simp
  have hu256 : u < 256 := by rw [hu]; exact Nat.lt_of_le_of_lt (Nat.div_le_self _ _) hv256
  obtain ⟨q, hq⟩ : ∃ q, q = u % 2 := ⟨_, rfl⟩
  have hand : bits .and .u8 (u : Int) 1 = (q : Int) := by
    have h := u8_and_nat u 1 hu256 (by decide)
    rw [Nat.and_one_is_mod] at h
    rw [hq]; exact h
  have e11 : (u : Int) % 2 = (q : Int) := by rw [hq]; simp
  have hq2 : q < 2 := by rw [hq]; exact Nat.mod_lt _ (by decide)
  have hbn : (q == 1) = bitAt v rr := by rw [hq, hu, hkk]; rfl
  have hne : ((q : Int) == 1) = bitF L r x y := by
    rw [hbit, ← hbn, Bool.eq_iff_iff, beq_iff_eq, beq_iff_eq]
    omega
  have Hne := Lib.hid hne
  clear hcc hrr hv hbit hj0 hq hbn hne hR hn hL hkk hu
  go_enter Tryz.func56, Tryz.ntmps56
  go_wp2_with fail
  go_ret
  exact ⟨ret_bool Hne.out, Bl.refl _⟩
theorem unpackR1_paints (gr gl : Nat) (A : Option Addr) (n c L W H : Nat) (r : List UInt8) (w : World) (h1 : Blk w gr 22 #[.slice A n c]) (h2 : Blk w gl 3 #[.int .i64 L]) (hR : Reads w 1 A n (r.map encB)) (hn : n = L * H) (hLH : L * H ≤ 1048606) (hL : L = longOf W) :
    Paints Tryz.prog 56 #[.pointer (some ⟨gr, 0, none⟩), .pointer (some ⟨gl, 0, none⟩)] Value.bool w W H (bitF L r) :=
  ⟨enters Tryz.func56 (by kernel_rfl) rfl, fun wx x y hb hx hy => unpackR1_any gr gl A n c L W H x y r wx (h1.bl hb) (h2.bl hb) (hR.bl hb) hn hLH hx hy hL⟩

set_option maxRecDepth 100000 in
set_option maxHeartbeats 4000000 in
theorem unpackedBits_any (bs : List UInt8) (A : Option Addr) (n c : Nat) (w : World) (hA : Reads w 1 A n (bs.map encB)) (hN : NumOk w) (hC : CutOk w) (hl : n ≤ 9223372036854775807) :
    Calls Tryz.prog 20 #[.slice A n c] w (BitsAns (unpB bs) w) := by
  have hn : bs.length = n := by have := hA.1; simpa using this
  let w1 := (w).alloc (.cells #[.int .i64 0, .int .i64 0, .slice none 0 0] 27)
  have w1b : Bl w w1 := (Bl.refl w).alloc _
  have w11 : Blk w1 (w.heap.size) 27 #[.int .i64 0, .int .i64 0, .slice none 0 0] := by
    have h0 := Blk.new (w) 27 #[.int .i64 0, .int .i64 0, .slice none 0 0]
    exact h0
  have lw1 : w1.heap.size = w.heap.size + 1 := by simp [w1]
  have Lw1 := Lib.hid lw1
  clear lw1
  by_cases hbig : 1048606 < n
  · have HUB := Lib.hid (show unpB bs = (4, 0, 0, []) by unfold unpB; rw [if_pos (by omega)])
    have kr := w11.all3
    have HL := Lib.hid hl
    clear hA hN hC hn
    go_enter Tryz.func20, Tryz.ntmps20
    go_wp2_with fail
    refine bodyPost_ret (v := .tuple #[.agg #[.int .i64 0, .int .i64 0, .slice none 0 0], .int .i64 4]) (by simp [results, Tryz.results20, go_sem]) rfl ?_
    exact bitsAns_bad HUB.out w1b
  · have hH := headR_any p4K [] bs A n c w1 (hA.bl w1b) (hN.bl w1b) (hC.bl w1b) (by omega) (by decide)
    have hH' : Calls Tryz.prog 54 #[.slice A n c, .string ⟨#[80, 52]⟩, .string ⟨#[]⟩] w1 (HeadR p4K [] bs w1) := hH
    unfold HeadR at hH'
    rw [← head_same] at hH'
    have HH := Lib.hid hH'
    have HLen := Lib.hid (show bs.length ≤ 1048606 by omega)
    have HA := Lib.hid (hA.bl w1b)
    have HN := Lib.hid (hN.bl w1b)
    clear hA hN hC hn hH hH'
    cases hhd : headPv p4K [] bs with
    | none =>
      have HUB := Lib.hid (show unpB bs = (8, 0, 0, []) by unfold unpB; rw [if_neg (by have := HLen.out; omega), hhd])
      rw [hhd] at HH
      clear hhd
      go_enter Tryz.func20, Tryz.ntmps20
      go_wp2_with (go_at_call 54; refine HH.out.mono ?_; rintro e w2 ⟨v1, v2, b, r, wx, rfl, rfl, -, hbx, hw2⟩; have Hw2 := Lib.hid hw2; clear hw2; refine Hid.out ?_)
      refine Lib.hid ?_
      have hb2 : Bl w1 w2 := by rw [Hw2.out]; exact hbx.trans (bl_bytes _ _ _)
      generalize grownCap wx r.length 0 5 = cp
      generalize some (⟨wx.heap.size, 0, none⟩ : Addr) = RA
      generalize r.length = m
      clear Hw2 HH
      go_upto_region 5 with fail
      generalize hw3 : (w2.alloc (.cells #[.slice RA m cp] 22)).alloc _ = w3
      have hb3 : Bl w1 w3 := by rw [← hw3]; exact (hb2.alloc _).alloc _
      have kr := (w11.bl hb3).all3
      clear hw3
      go_wp2_with fail
      refine bodyPost_ret (v := .tuple #[.agg #[.int .i64 0, .int .i64 0, .slice none 0 0], .int .i64 8]) (by simp [results, Tryz.results20, go_sem, kr]) rfl ?_
      exact bitsAns_bad HUB.out ((((w1b.trans hb3).setCell (Nat.le_refl _) _).setCell (Nat.le_refl _) _).setCell (Nat.le_refl _) _)
    | some x =>
      obtain ⟨W, H, rest⟩ := x
      obtain ⟨⟨a1, a2⟩, ⟨a3, a4⟩, hcan⟩ := headP_iff.1 hhd
      have hUB := unpB_head HLen.out hhd
      have hrl : rest.length ≤ bs.length := by rw [hcan]; unfold canonF; simp only [List.length_append, List.length_cons]; omega
      have Hrl := Lib.hid hrl
      obtain ⟨L, hL⟩ : ∃ L, L = longOf W := ⟨_, rfl⟩
      have e1 : ((W : Int) + 7) / 8 = (L : Int) := by rw [hL]; unfold longOf; omega
      have hL1 : 1 ≤ L := by rw [hL]; exact longOf_pos a1
      have hL2 : L ≤ 1250 := by rw [hL]; unfold longOf; omega
      have hLW : W ≤ L * 8 := by rw [hL]; unfold longOf; omega
      have hLHb : L * H ≤ 1250 * 9999 := Nat.mul_le_mul hL2 a4
      have hLi : (0 : Int) ≤ (L : Int) * (H : Int) ∧ (L : Int) * (H : Int) ≤ 12498750 := by have := Int.natCast_mul L H; omega
      obtain ⟨S, hS⟩ : ∃ S, S = sizeErr W H := ⟨_, rfl⟩
      have hck := fun w => sizeError_any W H w
      rw [← hS] at hck hUB
      have Hck := Lib.hid hck
      have HS := Lib.hid hS
      have HUB := Lib.hid hUB
      have HL := Lib.hid hL
      have HWH := Lib.hid (Nat.mul_le_mul a2 a4)
      have Hcan := Lib.hid hcan
      rw [hhd] at HH
      clear hck hS hUB hhd hcan hrl hLHb hL
      go_enter Tryz.func20, Tryz.ntmps20
      go_wp2_with (go_at_call 54; refine HH.out.mono ?_; rintro e w2 ⟨v1, v2, b, r, wx, rfl, rfl, hres, hbx, hw2⟩; have Hw2 := Lib.hid hw2; clear hw2; refine Hid.out ?_)
      refine Lib.hid ?_
      obtain ⟨rfl, rfl, rfl⟩ := hres W H rest rfl
      have hb2 : Bl w1 w2 := by rw [Hw2.out]; exact hbx.trans (bl_bytes _ _ _)
      have hr2 : Reads w2 1 (some ⟨wx.heap.size, 0, none⟩) r.length (r.map encB) := by rw [Hw2.out]; exact reads_bytes _ _ _ (by have := Hrl.out; have := HLen.out; unfold maxLen; omega)
      obtain ⟨m, hm⟩ : ∃ m, m = r.length := ⟨_, rfl⟩
      rw [← hm] at hr2 HUB ⊢
      have Hm := Lib.hid hm
      generalize grownCap wx m 0 5 = cp
      generalize some (⟨wx.heap.size, 0, none⟩ : Addr) = RA at hr2 ⊢
      have b7 := Blk.new w2 22 #[.slice RA m cp]
      have hb7 : Bl w1 (w2.alloc (.cells #[.slice RA m cp] 22)) := hb2.alloc _
      have hr7 := hr2.bl ((Bl.refl w2).alloc (.cells #[.slice RA m cp] 22))
      have Hr7 := Lib.hid hr7
      clear Hw2 hr2 hm hres HH hr7
      go_upto_region 4 with fail
      generalize hgr : w2.heap.size = gr at b7 ⊢
      generalize hw7 : w2.alloc (.cells #[.slice RA m cp] 22) = w7 at b7 hb7 Hr7 ⊢
      clear hgr hw7 hb2
      go_upto_region 5 with fail
      rw [e1]
      have b8 := Blk.new w7 3 #[.int .i64 (L : Int)]
      have hb78 : Bl w7 (w7.alloc (.cells #[.int .i64 (L : Int)] 3)) := (Bl.refl w7).alloc _
      generalize hgl : w7.heap.size = gl at b8 ⊢
      generalize hw8 : w7.alloc (.cells #[.int .i64 (L : Int)] 3) = w8 at b8 hb78 ⊢
      have hb18 := hb7.trans hb78
      have b7' := b7.bl hb78
      have Hr8 := Lib.hid (Hr7.out.bl hb78)
      clear hgl hw8 e1 b7 hb7 hb78 Hr7
      have kr := (w11.bl hb18).all3
      have k7 := b7'.all1
      have k8 := b8.all1
      by_cases hlw : m = L * H
      · have hq2 : ((m : Int) != (L : Int) * (H : Int)) = false := by rw [hlw]; simp
        have Hlw := Lib.hid hlw
        have hmb : m ≤ 1048606 := by have := Hrl.out; have := HLen.out; have := Hm.out; omega
        have hLH6 : L * H ≤ 1048606 := by omega
        have hWH8 : W * H ≤ 8388848 := by
          have h1 : W * H ≤ (L * 8) * H := Nat.mul_le_mul_right H hLW
          have h2 : L * 8 * H = L * H * 8 := by rw [Nat.mul_assoc, Nat.mul_comm 8 H, ← Nat.mul_assoc]
          omega
        have HWH8 := Lib.hid hWH8
        have HLH6 := Lib.hid hLH6
        have hpt := unpackR1_paints gr gl RA m cp L W H r w8 b7' b8 Hr8.out hlw hLH6 HL.out
        have hmd := Made_any W H (bitF L r) _ _ w8 (by omega) (by omega) (by omega) hpt
        have Hmd := Lib.hid hmd
        clear hlw hpt hmd hWH8 hLH6
        go_wp2_with (go_at_call 55; refine Hmd.out.mono ?_; rintro e w9 ⟨v, rfl, hpg, hb9⟩; refine Hid.out ?_)
        refine Lib.hid ?_
        obtain ⟨A3, c3, rfl, hr3, hr3n⟩ := hpg
        have b10 := Blk.new w9 27 #[.int .i64 W, .int .i64 H, .slice A3 (W * H) c3]
        have hb10 : Bl w8 (w9.alloc (.cells #[.int .i64 W, .int .i64 H, .slice A3 (W * H) c3] 27)) := hb9.alloc _
        have hr10 := hr3.bl ((Bl.refl w9).alloc (.cells #[.int .i64 W, .int .i64 H, .slice A3 (W * H) c3] 27))
        have HR := Lib.hid hr10; have HRn := Lib.hid hr3n
        have Hlt9 := Lib.hid (show w.heap.size < w9.heap.size by have := hb9.le; have := hb18.le; have := Lw1.out; omega)
        have Hlt8 := Lib.hid (show w.heap.size < w8.heap.size by have := hb18.le; have := Lw1.out; omega)
        clear hr3 hr3n hr10 Hmd kr k7 k8
        go_upto_region 8 with fail
        generalize hgo : w9.heap.size = go at b10 Hlt9 ⊢
        generalize hw10 : w9.alloc (.cells #[.int .i64 W, .int .i64 H, .slice A3 (W * H) c3] 27) = w10 at b10 hb10 HR ⊢
        clear hgo hw10 hb9
        have hb1_10 := hb18.trans hb10
        have k10 := b10.all3
        obtain ⟨BB, hBB⟩ : ∃ s : ByteArray, s = ⟨bs.toArray⟩ := ⟨_, rfl⟩
        obtain ⟨gd, hgd⟩ : ∃ g, g = grid W H (bitF L r) := ⟨_, rfl⟩
        obtain ⟨PB, hPB⟩ : ∃ s : ByteArray, s = ⟨(canonF p4K [] W H (packB W H gd)).toArray⟩ := ⟨_, rfl⟩
        have hcmp : (PB.toList == BB.toList) = spareOk W r := by
          rw [hPB, hBB, hgd, Lib.toList_data, Lib.toList_data]
          show (canonF p4K [] W H (packB W H (grid W H (bitF L r))) == bs) = _
          rw [HL.out]
          exact spare_dec a1 (by rw [← Hm.out, Hlw.out, HL.out]) Hcan.out
        rw [← hgd] at HR
        have hcv : ∀ w', Bl w10.drew w' → (convert 22 9 (.slice A n c)).run Tryz.prog w' = .ok (.string BB) w' := fun w' h => by
          rw [hBB]; exact conv_bytes w' A n c bs (HA.out.bl (hb1_10.trans (Bl.ofDrew h)))
        have Hpb := Lib.hid (fun w h1 h2 => packedBits_any W H A3 c3 gd w h1 h2 a1 a2 a4 (by rw [← HL.out]; exact HLH6.out))
        have hcv2 : ∀ w' A5 n5 c5, Reads w' 1 A5 n5 ((canonF p4K [] W H (packB W H gd)).map encB) → (convert 22 9 (.slice A5 n5 c5)).run Tryz.prog w' = .ok (.string PB) w' := fun w' A5 n5 c5 h => by
          rw [hPB]; exact conv_bytes w' A5 n5 c5 _ h
        have Hcv2 := Lib.hid hcv2
        have Hgd := Lib.hid hgd
        obtain ⟨eq, heq⟩ : ∃ b, b = spareOk W r := ⟨_, rfl⟩
        rw [← heq] at hcmp
        have hcmp2 : (PB.toList != BB.toList) = !eq := by rw [bne, hcmp]
        rw [← heq, ← HL.out] at HUB
        clear hBB hPB hgd hcv2 heq
        cases eq with
        | true =>
          have hcmp3 : (PB.toList != BB.toList) = false := hcmp2
          clear hcmp2
          refine wp_region_flow [(true, 0), (true, 3), (true, 4), (false, 1), (true, 2), (true, 5)] (fun _ => false) (by kernel_rfl) (by kernel_rfl) (by kernel_rfl) (by kernel_rfl) ?_
          iterate 1
            apply Flow.calm2 _ _ rfl rfl
            · intro w' hb' K' hK'
              obtain ⟨hc', hf'⟩ := hb'.rule
              go_simp
              try go_ints
              exact hK'
            · intro K' hK'
              simp only [Act.put, List.setIfInBounds_toArray, List.set_cons_zero, List.set_cons_succ]
              exact hK'
          iterate 1
            apply Flow.mv _ rfl
            · intro K' hK'
              simp only [Act.put, Act.eval, List.setIfInBounds_toArray, List.set_cons_zero, List.set_cons_succ, arr_getD, List.getD_cons_zero]
              exact hK'
          iterate 1
            apply Flow.calm2 _ _ rfl rfl
            · intro w' hb' K' hK'
              obtain ⟨hc', hf'⟩ := hb'.rule
              go_simp
              try go_ints
              exact hK'
            · intro K' hK'
              simp only [Act.put, List.setIfInBounds_toArray, List.set_cons_zero, List.set_cons_succ]
              exact hK'
          apply Flow.move rfl
          go_wp2_with fail
          refine (Hpb.out _ (HR.out.bl (Bl.drew (Bl.refl _))) (HN.out.bl (hb1_10.trans (Bl.drew (Bl.refl _))))).mono ?_
          rintro e w11' ⟨A5, n5, c5, rfl, hr5, HB1⟩
          have hcv5 : ∀ w', Bl w11' w' → (convert 22 9 (.slice A5 n5 c5)).run Tryz.prog w' = .ok (.string PB) w' := fun w' h => Hcv2.out w' A5 n5 c5 (hr5.bl h)
          have hb11 : Bl w10 w11' := Bl.ofDrew HB1
          clear hr5
          go_wp2_with fail
          refine ⟨fun _ => (by first | exact HB1 | exact Bl.refl _), ?_⟩
          iterate 1
            apply Flow.calm2 _ _ rfl rfl
            · intro w' hb' K' hK'
              obtain ⟨hc', hf'⟩ := hb'.rule
              go_simp
              try go_ints
              exact hK'
            · intro K' hK'
              simp only [Act.put, List.setIfInBounds_toArray, List.set_cons_zero, List.set_cons_succ]
              exact hK'
          iterate 1
            apply Flow.calm2 _ _ rfl rfl
            · intro w' hb' K' hK'
              obtain ⟨hc', hf'⟩ := hb'.rule
              go_simp
              try go_ints
              exact hK'
            · intro K' hK'
              simp only [Act.put, List.setIfInBounds_toArray, List.set_cons_zero, List.set_cons_succ]
              exact hK'
          refine Flow.done ?_
          have k11 := (b10.bl hb11).all3
          clear k10 hcv hcv5 HB1
          by_cases hs : S = 0
          · have hq3 : (S != 0) = false := by simp [hs]
            have Hs := Lib.hid hs
            clear hs
            go_wp2_with (go_at_call 43; refine (Hck.out _).mono ?_; rintro e w12 ⟨rfl, hb12⟩; refine Hid.out ?_)
            refine Lib.hid ?_
            have k12 := (b10.bl (hb11.trans hb12)).all3
            have kr12 := (w11.bl (hb1_10.trans (hb11.trans hb12))).all3
            have HR12 := Lib.hid (HR.out.bl (hb11.trans hb12))
            clear k11
            go_wp2_with fail
            refine bodyPost_ret (v := .tuple #[.agg #[.int .i64 W, .int .i64 H, .slice A3 (W * H) c3], .int .i64 0]) (by simp [results, Tryz.results20, go_sem, kr12]) rfl ?_
            refine bitsAns_ok ?_ (((HR12.out.store HRn.out Hlt8.out _).store HRn.out Hlt8.out _).store HRn.out Hlt8.out _) ?_
            · rw [HUB.out, if_pos Hlw.out, if_pos (by decide), if_pos Hs.out, ← Hgd.out]
            · exact ((((w1b.trans hb1_10).trans (hb11.trans hb12)).setCell (Nat.le_refl _) _).setCell (Nat.le_refl _) _).setCell (Nat.le_refl _) _
          · have hq3 : (S != 0) = true := by simp [hs]
            have Hs := Lib.hid hs
            clear hs
            go_wp2_with (go_at_call 43; refine (Hck.out _).mono ?_; rintro e w12 ⟨rfl, hb12⟩; refine Hid.out ?_)
            refine Lib.hid ?_
            have kr12 := (w11.bl (hb1_10.trans (hb11.trans hb12))).all3
            clear k11
            go_wp2_with fail
            refine bodyPost_ret (v := .tuple #[.agg #[.int .i64 0, .int .i64 0, .slice none 0 0], .int .i64 S]) (by simp [results, Tryz.results20, go_sem, kr12]) rfl ?_
            refine bitsAns_bad ?_ (((((w1b.trans hb1_10).trans (hb11.trans hb12)).setCell (Nat.le_refl _) _).setCell (Nat.le_refl _) _).setCell (Nat.le_refl _) _)
            rw [HUB.out, if_pos Hlw.out, if_pos (by decide), if_neg Hs.out]
        | false =>
          have hcmp3 : (PB.toList != BB.toList) = true := hcmp2
          clear hcmp2
          refine wp_region_flow [(true, 0), (true, 3), (true, 4), (false, 1), (true, 2), (true, 5)] (fun _ => false) (by kernel_rfl) (by kernel_rfl) (by kernel_rfl) (by kernel_rfl) ?_
          iterate 1
            apply Flow.calm2 _ _ rfl rfl
            · intro w' hb' K' hK'
              obtain ⟨hc', hf'⟩ := hb'.rule
              go_simp
              try go_ints
              exact hK'
            · intro K' hK'
              simp only [Act.put, List.setIfInBounds_toArray, List.set_cons_zero, List.set_cons_succ]
              exact hK'
          iterate 1
            apply Flow.mv _ rfl
            · intro K' hK'
              simp only [Act.put, Act.eval, List.setIfInBounds_toArray, List.set_cons_zero, List.set_cons_succ, arr_getD, List.getD_cons_zero]
              exact hK'
          iterate 1
            apply Flow.calm2 _ _ rfl rfl
            · intro w' hb' K' hK'
              obtain ⟨hc', hf'⟩ := hb'.rule
              go_simp
              try go_ints
              exact hK'
            · intro K' hK'
              simp only [Act.put, List.setIfInBounds_toArray, List.set_cons_zero, List.set_cons_succ]
              exact hK'
          apply Flow.move rfl
          go_wp2_with fail
          refine (Hpb.out _ (HR.out.bl (Bl.drew (Bl.refl _))) (HN.out.bl (hb1_10.trans (Bl.drew (Bl.refl _))))).mono ?_
          rintro e w11' ⟨A5, n5, c5, rfl, hr5, HB1⟩
          have hcv5 : ∀ w', Bl w11' w' → (convert 22 9 (.slice A5 n5 c5)).run Tryz.prog w' = .ok (.string PB) w' := fun w' h => Hcv2.out w' A5 n5 c5 (hr5.bl h)
          have hb11 : Bl w10 w11' := Bl.ofDrew HB1
          clear hr5
          go_wp2_with fail
          refine ⟨fun _ => (by first | exact HB1 | exact Bl.refl _), ?_⟩
          iterate 1
            apply Flow.calm2 _ _ rfl rfl
            · intro w' hb' K' hK'
              obtain ⟨hc', hf'⟩ := hb'.rule
              go_simp
              try go_ints
              exact hK'
            · intro K' hK'
              simp only [Act.put, List.setIfInBounds_toArray, List.set_cons_zero, List.set_cons_succ]
              exact hK'
          iterate 1
            apply Flow.calm2 _ _ rfl rfl
            · intro w' hb' K' hK'
              obtain ⟨hc', hf'⟩ := hb'.rule
              go_simp
              try go_ints
              exact hK'
            · intro K' hK'
              simp only [Act.put, List.setIfInBounds_toArray, List.set_cons_zero, List.set_cons_succ]
              exact hK'
          refine Flow.done ?_
          have kr11 := (w11.bl (hb1_10.trans hb11)).all3
          clear k10 hcv hcv5 HB1
          go_wp2_with fail
          refine bodyPost_ret (v := .tuple #[.agg #[.int .i64 0, .int .i64 0, .slice none 0 0], .int .i64 8]) (by simp [results, Tryz.results20, go_sem, kr11]) rfl ?_
          refine bitsAns_bad ?_ (((((w1b.trans hb1_10).trans hb11).setCell (Nat.le_refl _) _).setCell (Nat.le_refl _) _).setCell (Nat.le_refl _) _)
          rw [HUB.out, if_pos Hlw.out, if_neg (by decide)]
      · have hq2 : ((m : Int) != (L : Int) * (H : Int)) = true := by rw [bne_iff_ne]; intro h; apply hlw; have := Int.natCast_mul L H; omega
        have Hlw := Lib.hid hlw
        clear hlw
        go_wp2_with fail
        refine bodyPost_ret (v := .tuple #[.agg #[.int .i64 0, .int .i64 0, .slice none 0 0], .int .i64 8]) (by simp [results, Tryz.results20, go_sem, kr]) rfl ?_
        refine bitsAns_bad ?_ ((((w1b.trans hb18).setCell (Nat.le_refl _) _).setCell (Nat.le_refl _) _).setCell (Nat.le_refl _) _)
        rw [HUB.out, ← HL.out, if_neg Hlw.out]
end Go.Proofs.YtdbnacjdinolcaaGreatDoor
