/- strings.Builder.Grow, WriteRune, Cap; strings.Map of a text of 0 and 1 that exchanges them; bar.exchanged, bedref2.right. -/
import Derived.Test.YtkipcobpnecmhaaGreatDoorMClaimBarCodes18
import Derived.Test.YtkipcobpnecmhaaGreatDoorMClaimBarCodes16

namespace Go.Proofs.YtkipcobpnecmhaaGreatDoor
open Go.RowKit Go.Shelf

set_option maxRecDepth 100000 in
set_option maxHeartbeats 2000000 in
theorem growAt_any (B n : Nat) (w0 : World) (hbk : w0.heap[B]? = some (.cells #[.pointer none, .slice none 0 0] 88 (0, 0))) (hBw : B ≤ w0.heap.size) (h1 : 1 ≤ n) (hn : n ≤ 1048576) :
    Calls Tryz.prog 58 #[.pointer (some ⟨B, 0, none⟩), .int .i64 n] w0 fun e w' => e = .returned (.tuple #[]) ∧ Bui B [] w' ∧ Below B w0 w' := by
  have hbk1 : (w0.setCell ⟨B, 0, none⟩ (.pointer (some ⟨B, 0, none⟩))).heap[B]? = some (.cells #[.pointer (some ⟨B, 0, none⟩), .slice none 0 0] 88 (0, 0)) := by
    simp [World.setCell, Array.getElem?_modify, hbk]
  have c1 : (w0.setCell ⟨B, 0, none⟩ (.pointer (some ⟨B, 0, none⟩))).cell? ⟨B, 1, none⟩ = some (.slice none 0 0) := by rw [Lib.cell_of_heap hbk1]; rfl
  have hb1 : Below B w0 (w0.setCell ⟨B, 0, none⟩ (.pointer (some ⟨B, 0, none⟩))) := (Below.refl B w0).setCell (p := ⟨B, 0, none⟩) (Nat.le_refl _) _
  have Hck := Lib.hid (check_fresh B w0 (by rw [Lib.cell_of_heap hbk]; rfl) (by simp [World.shape?, hbk]) (Lib.frozen_of_heap hbk 0))
  obtain ⟨w1, hw1⟩ : ∃ x, x = w0.setCell ⟨B, 0, none⟩ (.pointer (some ⟨B, 0, none⟩)) := ⟨_, rfl⟩
  have hBw1 : B ≤ w1.heap.size := by rw [hw1]; simpa using hBw
  rw [← hw1] at hbk1 c1 hb1
  have HW1 := Lib.hid hw1
  have Hbk1 := Lib.hid hbk1
  clear hw1 hbk
  go_enter Tryz.func58, Tryz.ntmps58
  go_wp2_with fail
  refine Hck.out.mono ?_
  rintro e w2 ⟨rfl, rfl⟩
  rw [← HW1.out]
  go_upto_region 3 with fail
  refine wp_region_flow [(true, 0), (true, 1), (true, 2), (true, 3), (true, 4), (true, 5), (true, 6), (true, 7), (true, 8), (true, 9), (true, 10), (true, 11), (true, 12)] (fun _ => false) (by kernel_rfl) (by kernel_rfl) (by kernel_rfl) (by kernel_rfl) ?_
  iterate 1
    apply Flow.mv _ rfl
    · intro K' hK'
      simp only [Act.put, Act.eval, List.setIfInBounds_toArray, List.set_cons_zero, List.set_cons_succ, arr_getD, List.getD_cons_zero]
      exact hK'
  iterate 1
    apply Flow.calm2 _ _ rfl rfl
    · intro w' hb' K' hK'
      obtain ⟨hc', hf'⟩ := hb'.rule
      go_simp
      try go_ints
      exact hK'
    · intro K' hK'
      simp only [Act.put, List.setIfInBounds_toArray, List.set_cons_zero, List.set_cons_succ]
      exact hK'
  iterate 1
    apply Flow.calm2 _ _ rfl rfl
    · intro w' hb' K' hK'
      obtain ⟨hc', hf'⟩ := hb'.rule
      go_simp
      try go_ints
      exact hK'
    · intro K' hK'
      simp only [Act.put, List.setIfInBounds_toArray, List.set_cons_zero, List.set_cons_succ]
      exact hK'
  iterate 1
    apply Flow.calm2 _ _ rfl rfl
    · intro w' hb' K' hK'
      obtain ⟨hc', hf'⟩ := hb'.rule
      go_simp
      try go_ints
      exact hK'
    · intro K' hK'
      simp only [Act.put, List.setIfInBounds_toArray, List.set_cons_zero, List.set_cons_succ]
      exact hK'
  iterate 1
    apply Flow.calm2 _ _ rfl rfl
    · intro w' hb' K' hK'
      obtain ⟨hc', hf'⟩ := hb'.rule
      go_simp
      try go_ints
      exact hK'
    · intro K' hK'
      simp only [Act.put, List.setIfInBounds_toArray, List.set_cons_zero, List.set_cons_succ]
      exact hK'
  iterate 1
    apply Flow.mv _ rfl
    · intro K' hK'
      simp only [Act.put, Act.eval, List.setIfInBounds_toArray, List.set_cons_zero, List.set_cons_succ, arr_getD, List.getD_cons_zero]
      exact hK'
  iterate 1
    apply Flow.calm2 _ _ rfl rfl
    · intro w' hb' K' hK'
      obtain ⟨hc', hf'⟩ := hb'.rule
      go_simp
      try go_ints
      exact hK'
    · intro K' hK'
      simp only [Act.put, List.setIfInBounds_toArray, List.set_cons_zero, List.set_cons_succ]
      exact hK'
  iterate 1
    apply Flow.calm2 _ _ rfl rfl
    · intro w' hb' K' hK'
      obtain ⟨hc', hf'⟩ := hb'.rule
      go_simp
      try go_ints
      exact hK'
    · intro K' hK'
      simp only [Act.put, List.setIfInBounds_toArray, List.set_cons_zero, List.set_cons_succ]
      exact hK'
  iterate 1
    apply Flow.calm2 _ _ rfl rfl
    · intro w' hb' K' hK'
      obtain ⟨hc', hf'⟩ := hb'.rule
      go_simp
      try go_ints
      exact hK'
    · intro K' hK'
      simp only [Act.put, List.setIfInBounds_toArray, List.set_cons_zero, List.set_cons_succ]
      exact hK'
  iterate 1
    apply Flow.calm2 _ _ rfl rfl
    · intro w' hb' K' hK'
      obtain ⟨hc', hf'⟩ := hb'.rule
      go_simp
      try go_ints
      exact hK'
    · intro K' hK'
      simp only [Act.put, List.setIfInBounds_toArray, List.set_cons_zero, List.set_cons_succ]
      exact hK'
  iterate 1
    apply Flow.calm2 _ _ rfl rfl
    · intro w' hb' K' hK'
      obtain ⟨hc', hf'⟩ := hb'.rule
      go_simp
      try go_ints
      exact hK'
    · intro K' hK'
      simp only [Act.put, List.setIfInBounds_toArray, List.set_cons_zero, List.set_cons_succ]
      exact hK'
  iterate 1
    apply Flow.mv _ rfl
    · intro K' hK'
      simp only [Act.put, Act.eval, List.setIfInBounds_toArray, List.set_cons_zero, List.set_cons_succ, arr_getD, List.getD_cons_zero, List.getD_cons_succ]
      exact hK'
  iterate 1
    apply Flow.calm2 _ _ rfl rfl
    · intro w' hb' K' hK'
      obtain ⟨hc', hf'⟩ := hb'.rule
      go_simp
      try go_ints
      exact hK'
    · intro K' hK'
      simp only [Act.put, List.setIfInBounds_toArray, List.set_cons_zero, List.set_cons_succ]
      exact hK'
  refine Flow.done ?_
  have hlt : (0 : Int) < (n : Int) := by omega
  go_wp2_with fail
  refine (Any.Builder_grow_fresh Tryz.lays241 Tryz.builderExtra241 B B n w1.drew (Nat.le_refl _) Hbk1.out (by simpa using hBw1) (by omega)).mono ?_
  rintro e w2 ⟨rfl, h1, h2⟩
  go_wp2_with fail
  go_end0
  exact ⟨rfl, Or.inr (Lib.BuilderAtF.of h1), hb1.drew.trans h2⟩

set_option maxHeartbeats 2000000 in
set_option maxRecDepth 100000 in
theorem appendRune_any (B : Nat) (c : UInt8) (hc : c.toNat < 128) (v : Value) (bs : List Value) (w : World) (hown : w.ownsRowF B 5 1 v bs.length bs) (hlen : bs.length + 1 ≤ 140737488355328) (hBw : B ≤ w.heap.size) :
    Calls Tryz.prog 127 #[v, .int .i32 (c.toNat : Int)] w fun e w' => ∃ v', e = .returned v' ∧ w'.ownsRowF B 5 1 v' (bs.length + 1) (bs ++ [.int .u8 (c.toNat : Int)]) ∧ (∀ j, j < w.heap.size → some j ≠ v.ownBlock → w'.heap[j]? = w.heap[j]?) ∧ Below B w w' := by
  obtain ⟨i0, hi, hz0, hz1, hz2⟩ := info_parts info_u8
  obtain ⟨cv, hcv⟩ : ∃ cv : Int, cv = (c.toNat : Int) := ⟨_, rfl⟩
  rw [← hcv]
  have hc0 : 0 ≤ cv := by omega
  have hc1 : cv ≤ 127 := by omega
  clear hcv hc
  go_enter Tryz.func127, Tryz.ntmps127
  go_wp2_with (at_builtin; refine wpList_append_ownF _ rfl _ _ 40 rfl B 5 i0 (.int .u8 0) 1 1 Tryz.underlying40 hi hz0 hz1 hz2 rfl (by decide) _ _ _ rfl (hown.alloc _) ⟨w.heap.size, 0, none⟩ 1 1 [.int .u8 cv] rfl rfl ?c1 ?c2 ?c3 ?c4 ?c5 ?_)
  case c1 =>
    intro j u hj
    match j, hj with
    | 0, hj => simp at hj; subst hj; simp [Addr.add]
  case c2 => intro u hu; simp at hu; subst hu; rfl
  case c3 => unfold maxLen; omega
  case c4 => omega
  case c5 => simp; omega
  intro v' w2 hown' hgrow _
  have hbl : Below B w w2 := ((Below.refl B w).alloc hBw _).grown hgrow (by simp; omega) (fun k hk => (hown.lt k hk).1)
  have hbk : ∀ j, j < w.heap.size → some j ≠ v.ownBlock → w2.heap[j]? = w.heap[j]? := fun j hj hne => by
    rw [hgrow.block j (by simp; omega) hne, Lib.alloc_old w _ j hj]
  have HB := Lib.hid hbl; have HK := Lib.hid hbk; have HO := Lib.hid hown'
  clear hbl hbk hown' hgrow hown
  go_wp2
  go_ret
  exact ⟨v', rfl, HO.out, HK.out, HB.out⟩

set_option maxHeartbeats 2000000 in
set_option maxRecDepth 100000 in
theorem writeRune_any (B : Nat) (l : List UInt8) (c : UInt8) (hc : c.toNat < 128) (w : World) (h : Bui B l w) (hlen : l.length + 1 ≤ 140737488355328) (hBw : B ≤ w.heap.size) :
    Calls Tryz.prog 95 #[.pointer (some ⟨B, 0, none⟩), .int .i32 (c.toNat : Int)] w fun e w' => (∃ v, e = .returned v) ∧ Bui B (l ++ [c]) w' ∧ Below B w w' := by
  have hbc : Lib.byteCells (l ++ [c]) = Lib.byteCells l ++ [.int .u8 (c.toNat : Int)] := by rw [Lib.byteCells_append]; rfl
  have hbl : (Lib.byteCells l).length = l.length := Lib.byteCells_length l
  have Hbc := Lib.hid hbc; have Hbl := Lib.hid hbl
  obtain ⟨bs, hbs⟩ : ∃ bs, bs = Lib.byteCells l := ⟨_, rfl⟩
  have hck := builderCheck_any B l w h
  rw [← hbs] at hck Hbc Hbl
  have Hck := Lib.hid hck
  clear hbs hck h hbc hbl
  go_enter Tryz.func95, Tryz.ntmps95
  go_wp2_with (go_at_call 104; refine Hck.out.mono ?_)
  rintro e w1 ⟨rfl, h1, hb1⟩
  obtain ⟨hB, v, hbk, hown, hne⟩ := h1
  have c0 : w1.cell? ⟨B, 0, none⟩ = some (.pointer (some ⟨B, 0, none⟩)) := by rw [Lib.cell_of_heap hbk]; rfl
  have c1 : w1.cell? ⟨B, 1, none⟩ = some v := by rw [Lib.cell_of_heap hbk]; rfl
  obtain ⟨A, cap0, hv⟩ : ∃ A cap, v = .slice A bs.length cap := by
    rcases hown.2 with ⟨h2, h0⟩ | ⟨g, cap, cur, fz, hv, _⟩
    · exact ⟨none, 0, by rw [h2, h0]⟩
    · exact ⟨_, cap, hv⟩
  subst hv
  have hBw1 : B ≤ w1.heap.size := by have := hb1.size; omega
  have hlt : B < w1.heap.size := by
    rcases Nat.lt_or_ge B w1.heap.size with h' | h'
    · exact h'
    · simp [Array.getElem?_eq_none h'] at hbk
  have Har := Lib.hid (appendRune_any B c hc _ bs w1 hown (by have := Hbl.out; omega) hBw1)
  have HF := Lib.hid (And.intro hbk (And.intro hb1 hne))
  clear hbk hown hne hb1 hc Hck
  go_wp2_with fail
  refine Har.out.mono ?_
  rintro e w2 ⟨v', rfl, hown', hold, hb2⟩
  have hbk2 : w2.heap[B]? = some (.cells #[.pointer (some ⟨B, 0, none⟩), .slice A bs.length cap0] 88 (0, 0)) := by
    rw [hold B hlt (fun e => HF.out.2.2 e.symm)]
    exact HF.out.1
  have d0 : w2.cell? ⟨B, 0, none⟩ = some (.pointer (some ⟨B, 0, none⟩)) := by rw [Lib.cell_of_heap hbk2]; rfl
  have d1 : w2.cell? ⟨B, 1, none⟩ = some (.slice A bs.length cap0) := by rw [Lib.cell_of_heap hbk2]; rfl
  have f1 : w2.frozen? ⟨B, 1, none⟩ = false := Lib.frozen_of_heap hbk2 1
  obtain ⟨g, cap, rfl⟩ : ∃ g cap, v' = .slice (some ⟨g, 0, none⟩) (bs.length + 1) cap := by
    rcases hown'.2 with ⟨_, h0⟩ | ⟨g, cap, cur, fz, hv, _⟩
    · omega
    · exact ⟨g, cap, hv⟩
  have hput := Lib.BuilderAtF.put (T := 88) (e := 5) hB hbk2 (bs' := bs ++ [.int .u8 (c.toNat : Int)]) (by simpa using hown') (by decide)
  have hbel : Below B w (w2.setCell ⟨B, 1, none⟩ (.slice (some ⟨g, 0, none⟩) (bs.length + 1) cap)) := (HF.out.2.1.trans hb2).setCell (p := ⟨B, 1, none⟩) hB _
  have Hput := Lib.hid hput; have Hbel := Lib.hid hbel
  clear hput hbel hown' hbk2 hold hb2 HF Har c0 c1
  go_wp2
  refine bodyPost_ret (v := ?v) (by simp [results, Tryz.results95, go_sem]; rfl) rfl ?_
  exact ⟨⟨_, rfl⟩, by show Lib.IsBuilderF _ _ B B (Lib.byteCells (l ++ [c])) _; rw [Hbc.out]; exact Or.inr Hput.out, Hbel.out⟩

set_option maxHeartbeats 1000000 in
set_option maxRecDepth 100000 in
theorem builderCap_any (B : Nat) (l : List UInt8) (w : World) (h : Bui B l w) (hl : 0 < l.length) :
    Calls Tryz.prog 96 #[.pointer (some ⟨B, 0, none⟩)] w fun e w' => ∃ c : Nat, e = .returned (.int .i64 ((c + 1 : Nat) : Int)) ∧ w = w' := by
  have hbl : (Lib.byteCells l).length = l.length := Lib.byteCells_length l
  have key : ∀ p, Lib.BuilderAtF 88 5 B B p (Lib.byteCells l) w → ∃ g c : Nat, w.cell? ⟨B, 1, none⟩ = some (.slice (some ⟨g, 0, none⟩) l.length (c + 1)) := fun p h1 => by
    obtain ⟨hB, v, hbk, hown, hne⟩ := h1
    rcases hown.2 with ⟨h2, h0⟩ | ⟨g, cap, cur, fz, hv, -, -, -, hn, -⟩
    · omega
    · subst hv
      refine ⟨g, cap - 1, ?_⟩
      rw [Lib.cell_of_heap hbk, hbl, show cap - 1 + 1 = cap by omega]
      rfl
  obtain ⟨g, c, c1⟩ : ∃ g c : Nat, w.cell? ⟨B, 1, none⟩ = some (.slice (some ⟨g, 0, none⟩) l.length (c + 1)) := h.elim (key _) (key _)
  clear key h hbl
  go_enter Tryz.func96, Tryz.ntmps96
  go_wp2_with fail
  go_ret
  exact ⟨c, rfl, rfl⟩
set_option maxRecDepth 100000 in
theorem runeLen_any (c : UInt8) (hc : c.toNat < 128) (w : World) : Calls Tryz.prog 94 #[.int .i32 (c.toNat : Int)] w fun e w' => e = .returned (.int .i64 1) ∧ w = w' := by
  have h0 : (0 : Int) ≤ (c.toNat : Int) := by omega
  have h1 : (c.toNat : Int) ≤ 127 := by omega
  obtain ⟨cv, hcv⟩ : ∃ cv : Int, cv = (c.toNat : Int) := ⟨_, rfl⟩
  rw [← hcv] at h0 h1 ⊢
  clear hcv hc
  go_enter Tryz.func94, Tryz.ntmps94
  go_wp2_with fail
  try simp only [Exit.inBlock, Exit.then]
  go_ret
  exact ⟨rfl, rfl⟩

end Go.Proofs.YtkipcobpnecmhaaGreatDoor
