/- bedref2.FontError is fontErr. -/
import Derived.Test.YtjelhdpcaileiaaGreatDoorS9
import Derived.Test.YtjelhdpcaileiaaGreatDoorS8
import Derived.Test.YtjelhdpcaileiaaGreatDoorS2

namespace Go.Proofs.YtjelhdpcaileiaaGreatDoor
open Go.RowKit

theorem Blk.all5 {w : World} {g : Nat} {t : TypeId} {x y z u v : Value} (h : Blk w g t #[x, y, z, u, v]) : w.cell? ⟨g, 0, none⟩ = some x ∧ w.cell? ⟨g, 1, none⟩ = some y ∧ w.cell? ⟨g, 2, none⟩ = some z ∧ w.cell? ⟨g, 3, none⟩ = some u ∧ w.cell? ⟨g, 4, none⟩ = some v ∧ ∀ i, w.frozen? ⟨g, i, none⟩ = false := ⟨h.cell 0, h.cell 1, h.cell 2, h.cell 3, h.cell 4, h.frozen⟩
theorem first5_any (e1 e2 e3 e4 e5 : Int) (g : Nat) (w : World) (h : Blk w g 23 #[.int .i64 e1, .int .i64 e2, .int .i64 e3, .int .i64 e4, .int .i64 e5]) :
    Calls Tryz.prog 27 #[.slice (some ⟨g, 0, none⟩) 5 5] w fun e w' => e = .returned (.int .i64 (firstNZ [e1, e2, e3, e4, e5])) ∧ w = w' :=
  first_any (some ⟨g, 0, none⟩) 5 [e1, e2, e3, e4, e5] w (h.reads 5 1 rfl) (by simp)
theorem firstNZ_append (a b : List Int) : firstNZ (a ++ b) = if firstNZ a = 0 then firstNZ b else firstNZ a := by
  induction a with
  | nil => simp [firstNZ]
  | cons x a ih =>
    show (if x = 0 then firstNZ (a ++ b) else x) = _
    by_cases h : x = 0
    · rw [if_pos h, ih]
      show _ = if (if x = 0 then firstNZ a else x) = 0 then _ else (if x = 0 then firstNZ a else x)
      rw [if_pos h]
    · rw [if_neg h]
      show _ = if (if x = 0 then firstNZ a else x) = 0 then _ else (if x = 0 then firstNZ a else x)
      rw [if_neg h, if_neg h]
/-- What is asked of a letter first .. -/
def ltrE1 (prev : List (List UInt8)) (l : Ltr) : Int := firstNZ [whenI (!textB l.text) 2, whenI (decide (l.text ∈ prev)) 6, pageErr l.W l.H l.m]
/-- .. and then. -/
def ltrE2 (ht : Int) (l : Ltr) : Int := firstNZ [whenI (l.H != ht) 11, whenI (decide (64 < l.W)) 4, whenI (bareB l.bs l.W.toNat l.H.toNat) 2]
theorem ltrErr_parts (ht : Int) (prev : List (List UInt8)) (l : Ltr) : ltrErr ht prev l = if ltrE1 prev l = 0 then ltrE2 ht l else ltrE1 prev l :=
  firstNZ_append [whenI (!textB l.text) 2, whenI (decide (l.text ∈ prev)) 6, pageErr l.W l.H l.m] _
theorem ltrE1_zero {prev : List (List UInt8)} {l : Ltr} (h : ltrE1 prev l = 0) : pageErr l.W l.H l.m = 0 := by
  unfold ltrE1 at h
  have h2 := firstNZ_append [whenI (!textB l.text) 2, whenI (decide (l.text ∈ prev)) 6] [pageErr l.W l.H l.m]
  rw [show [whenI (!textB l.text) 2, whenI (decide (l.text ∈ prev)) 6] ++ [pageErr l.W l.H l.m] = [whenI (!textB l.text) 2, whenI (decide (l.text ∈ prev)) 6, pageErr l.W l.H l.m] from rfl, h] at h2
  split at h2
  · simp only [firstNZ] at h2
    by_cases h3 : pageErr l.W l.H l.m = 0
    · exact h3
    · rw [if_neg h3] at h2; exact h2.symm
  · rename_i h3; exact absurd h2.symm h3

set_option maxRecDepth 100000 in
set_option maxHeartbeats 1000000 in
theorem fontError1_any (b : Nat) (l y : Ltr) (w : World) (hb : Blk w b 122 #[.string ⟨l.text.toArray⟩, .int .i64 l.W, .int .i64 l.H, .slice l.A l.m l.c]) :
    Calls Tryz.prog 76 #[y.val, .pointer (some ⟨b, 0, none⟩)] w fun e w' => e = .returned (.bool (decide (y.text = l.text))) ∧ Bl w w' := by
  have k1 := hb.all4
  have hlt := hb.lt
  unfold Ltr.val
  by_cases he : y.text = l.text
  · rw [decide_eq_true he]
    go_enter Tryz.func76, Tryz.ntmps76
    go_wp2_with fail
    go_ret
    exact ⟨by simp [he], (Bl.refl _).alloc _⟩
  · rw [decide_eq_false he]
    go_enter Tryz.func76, Tryz.ntmps76
    go_wp2_with fail
    go_ret
    exact ⟨by simp [he], (Bl.refl _).alloc _⟩

end Go.Proofs.YtjelhdpcaileiaaGreatDoor


/-! bedref2.FontError is fontErr. -/
namespace Go.Proofs.YtjelhdpcaileiaaGreatDoor
open Go.RowKit

theorem bare_mem (bs : List Bool) (W H : Nat) : decide ((0 : Int) ∈ tabL W (colI bs W H)) = bareB bs W H := by
  unfold bareB
  apply decide_eq_decide.2
  constructor
  · intro h
    obtain ⟨x, hx⟩ := List.getElem?_of_mem h
    have hlt : x < W := by have := (List.getElem?_eq_some_iff.1 hx).1; rwa [tabL_len] at this
    rw [tabL_get _ hlt] at hx
    have h2 : colI bs W H x = 0 := Option.some.inj hx
    exact ⟨x, hlt, by unfold colI at h2; omega⟩
  · rintro ⟨x, hx, h0⟩
    refine List.mem_of_getElem? (i := x) ?_
    rw [tabL_get _ hx]
    unfold colI
    rw [h0]; rfl
theorem len0 (n : Nat) : ((n : Int) == 0) = decide (n = 0) := by
  cases n with
  | zero => rfl
  | succ n => rw [decide_eq_false (by omega)]; exact beq_eq_false_iff_ne.2 (by omega)
theorem len200 (n : Nat) : decide (200 < (n : Int)) = decide (200 < n) := decide_eq_decide.2 (by omega)
theorem prev_mem (ls : List Ltr) (t : List UInt8) : decide (∃ l ∈ ls, decide (l.text = t) = true) = decide (t ∈ ls.map Ltr.text) := by
  apply decide_eq_decide.2
  constructor
  · rintro ⟨l, hl, h⟩
    exact List.mem_map.2 ⟨l, hl, of_decide_eq_true h⟩
  · intro h
    obtain ⟨l, hl, h2⟩ := List.mem_map.1 h
    exact ⟨l, hl, decide_eq_true h2⟩

theorem fontError1_enters : ∀ args w, (callFunc 76 args).run Tryz.prog w = .ok (.enter 76 args) w := enters Tryz.func76 (by kernel_rfl) rfl
/-- Was the text met before? -/
theorem letter_twice (L : Option Addr) (c : Nat) (ls : List Ltr) (i : Nat) (hi : i ≤ ls.length) (b : Nat) (l : Ltr) (w : World) (hL : LtrsAt w L ls) (hb : Blk w b 122 #[.string ⟨l.text.toArray⟩, .int .i64 l.W, .int .i64 l.H, .slice l.A l.m l.c]) (hn : ls.length ≤ 9223372036854775807) :
    ∀ wx, Bl w wx → Calls Tryz.prog 75 #[.slice L i c, .func (.func 76) #[] #[.pointer (some ⟨b, 0, none⟩)]] wx fun e w' => e = .returned (.bool (decide (l.text ∈ (ls.take i).map Ltr.text))) ∧ Bl wx w' := by
  intro wx hx
  have hl : (ls.take i).length = i := by simp; omega
  have hT : Tests Tryz.prog 76 #[.pointer (some ⟨b, 0, none⟩)] wx (ls.take i) (fun y => decide (y.text = l.text)) :=
    ⟨fontError1_enters, fun wy y hy _ => fontError1_any b l y wy (hb.bl (hx.trans hy))⟩
  have h := ltrContains_any L c (ls.take i) _ _ _ wx ((hL.bl hx).take i hi) hT (by omega)
  rw [hl] at h
  rw [← prev_mem]
  exact h
/-- Is a column bare? -/
theorem letter_bare (l : Ltr) (w : World) (hA : Reads w 1 l.A l.m (l.bs.map .bool)) (hp : pageErr l.W l.H l.m = 0) :
    ∀ wx, Bl w wx → Calls Tryz.prog 78 #[.agg #[.int .i64 l.W, .int .i64 l.H, .slice l.A l.m l.c]] wx fun e w' => ∃ P n d, e = .returned (.slice P n d) ∧ Bl wx w' ∧
      ∀ wy, Bl w' wy → Calls Tryz.prog 77 #[.slice P n d, .int .i64 0] wy fun e w' => e = .returned (.bool (bareB l.bs l.W.toNat l.H.toNat)) ∧ wy = w' := by
  obtain ⟨t, W, H, A, m, c, bs⟩ := l
  obtain ⟨W, H, rfl, rfl, rfl, hW, hH, -⟩ := page_nat hp
  intro wx hx
  refine (columnsOf_any W H A c bs wx (hA.bl hx) hW hH).mono ?_
  rintro e w' ⟨P, d, rfl, hP, hb⟩
  refine ⟨P, W, d, rfl, hb, fun wy hy => ?_⟩
  have h := containsI_any P W d _ 0 wy (hP.bl hy) (by omega)
  rw [bare_mem] at h
  exact h

set_option maxRecDepth 100000 in
set_option maxHeartbeats 8000000 in
theorem fontError_any (nm : List UInt8) (ht gap sp : Int) (L : Option Addr) (c : Nat) (ls : List Ltr) (w : World) (hL : LtrsAt w L ls) (hnm : nm.length ≤ 9223372036854775807) (hn : ls.length ≤ 9223372036854775807) (hc : ls.length ≤ c) :
    Calls Tryz.prog 18 #[.agg #[.string ⟨nm.toArray⟩, .int .i64 ht, .int .i64 gap, .int .i64 sp, .slice L ls.length c]] w fun e w' => e = .returned (.int .i64 (fontErr (nameB nm) ht gap sp ls)) ∧ Bl w w' := by
  let w1 := (w).alloc (.cells #[.string ⟨nm.toArray⟩, .int .i64 ht, .int .i64 gap, .int .i64 sp, .slice L ls.length c] 45)
  have w1b : Bl w w1 := (Bl.refl w).alloc _
  have w11 : Blk w1 (w.heap.size) 45 #[.string ⟨nm.toArray⟩, .int .i64 ht, .int .i64 gap, .int .i64 sp, .slice L ls.length c] := by
    have h0 := Blk.new (w) 45 #[.string ⟨nm.toArray⟩, .int .i64 ht, .int .i64 gap, .int .i64 sp, .slice L ls.length c]
    exact h0
  have HL := Lib.hid (hL.bl w1b)
  have hnm' := fun w => nameOf_any ⟨nm.toArray⟩ w (by rw [Lib.size_mk]; exact hnm)
  have HNm := Lib.hid hnm'
  have k1 := w11.all5
  clear hL hnm'
  obtain ⟨E0, hE0⟩ : ∃ E, E = fontHead (nameB nm) ht gap sp ls.length := ⟨_, rfl⟩
  have HE0 := Lib.hid hE0
  clear hE0
  go_enter Tryz.func18, Tryz.ntmps18
  go_upto_region 1 with fail
  go_cut [3] from 8 to 47 (fun s3 wc => s3 = .int .i64 E0 ∧ Bl w1 wc)
  case first =>
    cases h1 : inB ht 1 64
    · have hf : firstNZ [whenI (!nameB nm) 5, whenI true 3, whenI (decide (sp ≤ gap)) 7, whenI ((ls.length : Int) == 0) 9, whenI (decide (200 < (ls.length : Int))) 4] = E0 := by
        rw [HE0.out]; unfold fontHead rangeB; rw [h1]; rw [len0, len200]; rfl
      refine wp_region_flow [(true, 0), (true, 1), (true, 5), (true, 6), (true, 22), (true, 23), (true, 24), (true, 25), (true, 26), (true, 28), (true, 29), (true, 30), (true, 31), (true, 33), (true, 34), (true, 35), (true, 36), (false, 2), (true, 3), (false, 4), (false, 7), (true, 8), (true, 9), (true, 10), (true, 11), (false, 12), (true, 13), (true, 14), (true, 15), (true, 16), (true, 17), (false, 18), (true, 19), (true, 20), (false, 21), (false, 27), (false, 32), (false, 37), (false, 38), (false, 39), (true, 40)] (fun _ => false) (by kernel_rfl) (by kernel_rfl) (by kernel_rfl) (by kernel_rfl) ?_
      iterate 1
        apply Flow.calm2 _ _ rfl rfl
        · intro w' hb' K' hK'
          obtain ⟨hc', hf'⟩ := hb'.rule
          go_simp
          try go_ints
          exact hK'
        · intro K' hK'
          simp only [Act.put, List.setIfInBounds_toArray, List.set_cons_zero, List.set_cons_succ]
          exact hK'
      iterate 1
        apply Flow.calm2 _ _ rfl rfl
        · intro w' hb' K' hK'
          obtain ⟨hc', hf'⟩ := hb'.rule
          go_simp
          try go_ints
          exact hK'
        · intro K' hK'
          simp only [Act.put, List.setIfInBounds_toArray, List.set_cons_zero, List.set_cons_succ]
          exact hK'
      iterate 1
        apply Flow.calm2 _ _ rfl rfl
        · intro w' hb' K' hK'
          obtain ⟨hc', hf'⟩ := hb'.rule
          go_simp
          try go_ints
          exact hK'
        · intro K' hK'
          simp only [Act.put, List.setIfInBounds_toArray, List.set_cons_zero, List.set_cons_succ]
          exact hK'
      iterate 1
        apply Flow.calm2 _ _ rfl rfl
        · intro w' hb' K' hK'
          obtain ⟨hc', hf'⟩ := hb'.rule
          go_simp
          try go_ints
          exact hK'
        · intro K' hK'
          simp only [Act.put, List.setIfInBounds_toArray, List.set_cons_zero, List.set_cons_succ]
          exact hK'
      iterate 1
        apply Flow.calm2 _ _ rfl rfl
        · intro w' hb' K' hK'
          obtain ⟨hc', hf'⟩ := hb'.rule
          go_simp
          try go_ints
          exact hK'
        · intro K' hK'
          simp only [Act.put, List.setIfInBounds_toArray, List.set_cons_zero, List.set_cons_succ]
          exact hK'
      iterate 1
        apply Flow.calm2 _ _ rfl rfl
        · intro w' hb' K' hK'
          obtain ⟨hc', hf'⟩ := hb'.rule
          go_simp
          try go_ints
          exact hK'
        · intro K' hK'
          simp only [Act.put, List.setIfInBounds_toArray, List.set_cons_zero, List.set_cons_succ]
          exact hK'
      iterate 1
        apply Flow.calm2 _ _ rfl rfl
        · intro w' hb' K' hK'
          obtain ⟨hc', hf'⟩ := hb'.rule
          go_simp
          try go_ints
          exact hK'
        · intro K' hK'
          simp only [Act.put, List.setIfInBounds_toArray, List.set_cons_zero, List.set_cons_succ]
          exact hK'
      iterate 1
        apply Flow.calm2 _ _ rfl rfl
        · intro w' hb' K' hK'
          obtain ⟨hc', hf'⟩ := hb'.rule
          go_simp
          try go_ints
          exact hK'
        · intro K' hK'
          simp only [Act.put, List.setIfInBounds_toArray, List.set_cons_zero, List.set_cons_succ]
          exact hK'
      iterate 1
        apply Flow.calm2 _ _ rfl rfl
        · intro w' hb' K' hK'
          obtain ⟨hc', hf'⟩ := hb'.rule
          go_simp
          try go_ints
          exact hK'
        · intro K' hK'
          simp only [Act.put, List.setIfInBounds_toArray, List.set_cons_zero, List.set_cons_succ]
          exact hK'
      iterate 1
        apply Flow.calm2 _ _ rfl rfl
        · intro w' hb' K' hK'
          obtain ⟨hc', hf'⟩ := hb'.rule
          go_simp
          try go_ints
          exact hK'
        · intro K' hK'
          simp only [Act.put, List.setIfInBounds_toArray, List.set_cons_zero, List.set_cons_succ]
          exact hK'
      iterate 1
        apply Flow.calm2 _ _ rfl rfl
        · intro w' hb' K' hK'
          obtain ⟨hc', hf'⟩ := hb'.rule
          go_simp
          try go_ints
          exact hK'
        · intro K' hK'
          simp only [Act.put, List.setIfInBounds_toArray, List.set_cons_zero, List.set_cons_succ]
          exact hK'
      iterate 1
        apply Flow.calm2 _ _ rfl rfl
        · intro w' hb' K' hK'
          obtain ⟨hc', hf'⟩ := hb'.rule
          go_simp
          try go_ints
          exact hK'
        · intro K' hK'
          simp only [Act.put, List.setIfInBounds_toArray, List.set_cons_zero, List.set_cons_succ]
          exact hK'
      iterate 1
        apply Flow.calm2 _ _ rfl rfl
        · intro w' hb' K' hK'
          obtain ⟨hc', hf'⟩ := hb'.rule
          go_simp
          try go_ints
          exact hK'
        · intro K' hK'
          simp only [Act.put, List.setIfInBounds_toArray, List.set_cons_zero, List.set_cons_succ]
          exact hK'
      iterate 1
        apply Flow.calm2 _ _ rfl rfl
        · intro w' hb' K' hK'
          obtain ⟨hc', hf'⟩ := hb'.rule
          go_simp
          try go_ints
          exact hK'
        · intro K' hK'
          simp only [Act.put, List.setIfInBounds_toArray, List.set_cons_zero, List.set_cons_succ]
          exact hK'
      iterate 1
        apply Flow.calm2 _ _ rfl rfl
        · intro w' hb' K' hK'
          obtain ⟨hc', hf'⟩ := hb'.rule
          go_simp
          try go_ints
          exact hK'
        · intro K' hK'
          simp only [Act.put, List.setIfInBounds_toArray, List.set_cons_zero, List.set_cons_succ]
          exact hK'
      iterate 1
        apply Flow.calm2 _ _ rfl rfl
        · intro w' hb' K' hK'
          obtain ⟨hc', hf'⟩ := hb'.rule
          go_simp
          try go_ints
          exact hK'
        · intro K' hK'
          simp only [Act.put, List.setIfInBounds_toArray, List.set_cons_zero, List.set_cons_succ]
          exact hK'
      iterate 1
        apply Flow.calm2 _ _ rfl rfl
        · intro w' hb' K' hK'
          obtain ⟨hc', hf'⟩ := hb'.rule
          go_simp
          try go_ints
          exact hK'
        · intro K' hK'
          simp only [Act.put, List.setIfInBounds_toArray, List.set_cons_zero, List.set_cons_succ]
          exact hK'
      apply Flow.move rfl
      go_wp2_with fail
      refine (HNm.out _).mono ?_
      rintro e w2 ⟨rfl, HB1⟩
      have hb2 : Bl w1 w2 := Bl.ofDrew HB1
      have k2 := (w11.bl hb2).all5
      go_wp2_with fail
      refine ⟨fun _ => (by first | exact HB1 | exact Bl.refl _), ?_⟩
      iterate 1
        apply Flow.calm2 _ _ rfl rfl
        · intro w' hb' K' hK'
          obtain ⟨hc', hf'⟩ := hb'.rule
          go_simp
          try go_ints
          exact hK'
        · intro K' hK'
          simp only [Act.put, List.setIfInBounds_toArray, List.set_cons_zero, List.set_cons_succ]
          exact hK'
      apply Flow.move rfl
      go_wp2_with fail
      refine (when_any _ _ _).mono ?_
      rintro e w' ⟨rfl, rfl⟩
      go_wp2_with fail
      refine ⟨fun _ => (by first | exact HB2 | exact Bl.refl _), ?_⟩
      apply Flow.move rfl
      go_wp2_with fail
      refine (in_any _ _ _ _).mono ?_
      rintro e w' ⟨rfl, rfl⟩
      go_wp2_with fail
      refine ⟨fun _ => (by first | exact HB3 | exact Bl.refl _), ?_⟩
      iterate 1
        apply Flow.calm2 _ _ rfl rfl
        · intro w' hb' K' hK'
          obtain ⟨hc', hf'⟩ := hb'.rule
          go_simp
          try go_ints
          exact hK'
        · intro K' hK'
          simp only [Act.put, List.setIfInBounds_toArray, List.set_cons_zero, List.set_cons_succ]
          exact hK'
      iterate 1
        apply Flow.mv _ rfl
        · intro K' hK'
          simp only [Act.put, Act.eval, List.setIfInBounds_toArray, List.set_cons_zero, List.set_cons_succ, arr_getD, List.getD_cons_zero, List.getD_cons_succ]
          exact hK'
      first
        | (apply Flow.pass rfl (by rfl))
        | (apply Flow.calmG _ rfl (by rfl)
           · intro w' hb'
             obtain ⟨hc', hf'⟩ := hb'.rule
             go_simp
             all_goals (try rfl))
      simp only [Act.put, List.setIfInBounds_toArray, List.set_cons_zero, List.set_cons_succ]
      try go_ints
      first
        | (apply Flow.pass rfl (by rfl))
        | (apply Flow.calmG _ rfl (by rfl)
           · intro w' hb'
             obtain ⟨hc', hf'⟩ := hb'.rule
             go_simp
             all_goals (try rfl))
      simp only [Act.put, List.setIfInBounds_toArray, List.set_cons_zero, List.set_cons_succ]
      try go_ints
      -- a guarded mover
      apply Flow.move rfl
      go_wp2_with fail
      refine ⟨fun _ => Bl.refl _, ?_⟩
      first
        | (apply Flow.pass rfl (by rfl))
        | (apply Flow.calmG _ rfl (by rfl)
           · intro w' hb'
             obtain ⟨hc', hf'⟩ := hb'.rule
             go_simp
             all_goals (try rfl))
      simp only [Act.put, List.setIfInBounds_toArray, List.set_cons_zero, List.set_cons_succ]
      try go_ints
      iterate 1
        apply Flow.calm2 _ _ rfl rfl
        · intro w' hb' K' hK'
          obtain ⟨hc', hf'⟩ := hb'.rule
          go_simp
          try go_ints
          exact hK'
        · intro K' hK'
          simp only [Act.put, List.setIfInBounds_toArray, List.set_cons_zero, List.set_cons_succ]
          exact hK'
      iterate 1
        apply Flow.mv _ rfl
        · intro K' hK'
          simp only [Act.put, Act.eval, List.setIfInBounds_toArray, List.set_cons_zero, List.set_cons_succ, arr_getD, List.getD_cons_zero, List.getD_cons_succ]
          exact hK'
      first
        | (apply Flow.pass rfl (by rfl))
        | (apply Flow.calmG _ rfl (by rfl)
           · intro w' hb'
             obtain ⟨hc', hf'⟩ := hb'.rule
             go_simp
             all_goals (try rfl))
      simp only [Act.put, List.setIfInBounds_toArray, List.set_cons_zero, List.set_cons_succ]
      try go_ints
      first
        | (apply Flow.pass rfl (by rfl))
        | (apply Flow.calmG _ rfl (by rfl)
           · intro w' hb'
             obtain ⟨hc', hf'⟩ := hb'.rule
             go_simp
             all_goals (try rfl))
      simp only [Act.put, List.setIfInBounds_toArray, List.set_cons_zero, List.set_cons_succ]
      try go_ints
      -- a guarded mover
      apply Flow.move rfl
      go_wp2_with fail
      refine ⟨fun _ => Bl.refl _, ?_⟩
      first
        | (apply Flow.pass rfl (by rfl))
        | (apply Flow.calmG _ rfl (by rfl)
           · intro w' hb'
             obtain ⟨hc', hf'⟩ := hb'.rule
             go_simp
             all_goals (try rfl))
      simp only [Act.put, List.setIfInBounds_toArray, List.set_cons_zero, List.set_cons_succ]
      try go_ints
      iterate 1
        apply Flow.calm2 _ _ rfl rfl
        · intro w' hb' K' hK'
          obtain ⟨hc', hf'⟩ := hb'.rule
          go_simp
          try go_ints
          exact hK'
        · intro K' hK'
          simp only [Act.put, List.setIfInBounds_toArray, List.set_cons_zero, List.set_cons_succ]
          exact hK'
      apply Flow.move rfl
      go_wp2_with fail
      refine (when_any _ _ _).mono ?_
      rintro e w' ⟨rfl, rfl⟩
      go_wp2_with fail
      refine ⟨fun _ => (by first | exact HB6 | exact Bl.refl _), ?_⟩
      apply Flow.move rfl
      go_wp2_with fail
      refine (when_any _ _ _).mono ?_
      rintro e w' ⟨rfl, rfl⟩
      go_wp2_with fail
      refine ⟨fun _ => (by first | exact HB7 | exact Bl.refl _), ?_⟩
      apply Flow.move rfl
      go_wp2_with fail
      refine (when_any _ _ _).mono ?_
      rintro e w' ⟨rfl, rfl⟩
      go_wp2_with fail
      refine ⟨fun _ => (by first | exact HB8 | exact Bl.refl _), ?_⟩
      apply Flow.move rfl
      go_wp2_with fail
      refine (when_any _ _ _).mono ?_
      rintro e w' ⟨rfl, rfl⟩
      go_wp2_with fail
      refine ⟨fun _ => (by first | exact HB9 | exact Bl.refl _), ?_⟩
      apply Flow.move rfl
      go_wp2_with fail
      first | refine ⟨fun _ => ?_, ?_⟩ | refine ⟨?_, ?_⟩
      · repeat' (first | exact Bl.refl _ | refine Bl.drewL ?_ | refine Bl.drew ?_ | refine Bl.alloc ?_ _)
      apply Flow.move rfl
      go_wp2_with fail
      refine (first5_any _ _ _ _ _ _ _ (Blk.new _ _ _)).mono ?_
      rintro e w' ⟨rfl, rfl⟩
      go_wp2_with fail
      refine ⟨fun _ => (by first | exact HB11 | exact Bl.refl _), ?_⟩
      iterate 1
        apply Flow.asg _ rfl
        · intro K' hK'
          simp only [Act.put, Act.eval, List.setIfInBounds_toArray, List.set_cons_zero, List.set_cons_succ, arr_getD, List.getD_cons_zero, List.getD_cons_succ]
          exact hK'
      refine Flow.done ?_
      go_wp2_with fail
      go_meet
      case rel => exact ⟨rfl, hb2.alloc _⟩
    · cases h2 : inB gap 1 16
      · have hf : firstNZ [whenI (!nameB nm) 5, whenI true 3, whenI (decide (sp ≤ gap)) 7, whenI ((ls.length : Int) == 0) 9, whenI (decide (200 < (ls.length : Int))) 4] = E0 := by
          rw [HE0.out]; unfold fontHead rangeB; rw [h1, h2]; rw [len0, len200]; rfl
        refine wp_region_flow [(true, 0), (true, 1), (true, 5), (true, 6), (true, 22), (true, 23), (true, 24), (true, 25), (true, 26), (true, 28), (true, 29), (true, 30), (true, 31), (true, 33), (true, 34), (true, 35), (true, 36), (false, 2), (true, 3), (false, 4), (false, 7), (true, 8), (true, 9), (true, 10), (true, 11), (false, 12), (true, 13), (true, 14), (true, 15), (true, 16), (true, 17), (false, 18), (true, 19), (true, 20), (false, 21), (false, 27), (false, 32), (false, 37), (false, 38), (false, 39), (true, 40)] (fun _ => false) (by kernel_rfl) (by kernel_rfl) (by kernel_rfl) (by kernel_rfl) ?_
        iterate 1
          apply Flow.calm2 _ _ rfl rfl
          · intro w' hb' K' hK'
            obtain ⟨hc', hf'⟩ := hb'.rule
            go_simp
            try go_ints
            exact hK'
          · intro K' hK'
            simp only [Act.put, List.setIfInBounds_toArray, List.set_cons_zero, List.set_cons_succ]
            exact hK'
        iterate 1
          apply Flow.calm2 _ _ rfl rfl
          · intro w' hb' K' hK'
            obtain ⟨hc', hf'⟩ := hb'.rule
            go_simp
            try go_ints
            exact hK'
          · intro K' hK'
            simp only [Act.put, List.setIfInBounds_toArray, List.set_cons_zero, List.set_cons_succ]
            exact hK'
        iterate 1
          apply Flow.calm2 _ _ rfl rfl
          · intro w' hb' K' hK'
            obtain ⟨hc', hf'⟩ := hb'.rule
            go_simp
            try go_ints
            exact hK'
          · intro K' hK'
            simp only [Act.put, List.setIfInBounds_toArray, List.set_cons_zero, List.set_cons_succ]
            exact hK'
        iterate 1
          apply Flow.calm2 _ _ rfl rfl
          · intro w' hb' K' hK'
            obtain ⟨hc', hf'⟩ := hb'.rule
            go_simp
            try go_ints
            exact hK'
          · intro K' hK'
            simp only [Act.put, List.setIfInBounds_toArray, List.set_cons_zero, List.set_cons_succ]
            exact hK'
        iterate 1
          apply Flow.calm2 _ _ rfl rfl
          · intro w' hb' K' hK'
            obtain ⟨hc', hf'⟩ := hb'.rule
            go_simp
            try go_ints
            exact hK'
          · intro K' hK'
            simp only [Act.put, List.setIfInBounds_toArray, List.set_cons_zero, List.set_cons_succ]
            exact hK'
        iterate 1
          apply Flow.calm2 _ _ rfl rfl
          · intro w' hb' K' hK'
            obtain ⟨hc', hf'⟩ := hb'.rule
            go_simp
            try go_ints
            exact hK'
          · intro K' hK'
            simp only [Act.put, List.setIfInBounds_toArray, List.set_cons_zero, List.set_cons_succ]
            exact hK'
        iterate 1
          apply Flow.calm2 _ _ rfl rfl
          · intro w' hb' K' hK'
            obtain ⟨hc', hf'⟩ := hb'.rule
            go_simp
            try go_ints
            exact hK'
          · intro K' hK'
            simp only [Act.put, List.setIfInBounds_toArray, List.set_cons_zero, List.set_cons_succ]
            exact hK'
        iterate 1
          apply Flow.calm2 _ _ rfl rfl
          · intro w' hb' K' hK'
            obtain ⟨hc', hf'⟩ := hb'.rule
            go_simp
            try go_ints
            exact hK'
          · intro K' hK'
            simp only [Act.put, List.setIfInBounds_toArray, List.set_cons_zero, List.set_cons_succ]
            exact hK'
        iterate 1
          apply Flow.calm2 _ _ rfl rfl
          · intro w' hb' K' hK'
            obtain ⟨hc', hf'⟩ := hb'.rule
            go_simp
            try go_ints
            exact hK'
          · intro K' hK'
            simp only [Act.put, List.setIfInBounds_toArray, List.set_cons_zero, List.set_cons_succ]
            exact hK'
        iterate 1
          apply Flow.calm2 _ _ rfl rfl
          · intro w' hb' K' hK'
            obtain ⟨hc', hf'⟩ := hb'.rule
            go_simp
            try go_ints
            exact hK'
          · intro K' hK'
            simp only [Act.put, List.setIfInBounds_toArray, List.set_cons_zero, List.set_cons_succ]
            exact hK'
        iterate 1
          apply Flow.calm2 _ _ rfl rfl
          · intro w' hb' K' hK'
            obtain ⟨hc', hf'⟩ := hb'.rule
            go_simp
            try go_ints
            exact hK'
          · intro K' hK'
            simp only [Act.put, List.setIfInBounds_toArray, List.set_cons_zero, List.set_cons_succ]
            exact hK'
        iterate 1
          apply Flow.calm2 _ _ rfl rfl
          · intro w' hb' K' hK'
            obtain ⟨hc', hf'⟩ := hb'.rule
            go_simp
            try go_ints
            exact hK'
          · intro K' hK'
            simp only [Act.put, List.setIfInBounds_toArray, List.set_cons_zero, List.set_cons_succ]
            exact hK'
        iterate 1
          apply Flow.calm2 _ _ rfl rfl
          · intro w' hb' K' hK'
            obtain ⟨hc', hf'⟩ := hb'.rule
            go_simp
            try go_ints
            exact hK'
          · intro K' hK'
            simp only [Act.put, List.setIfInBounds_toArray, List.set_cons_zero, List.set_cons_succ]
            exact hK'
        iterate 1
          apply Flow.calm2 _ _ rfl rfl
          · intro w' hb' K' hK'
            obtain ⟨hc', hf'⟩ := hb'.rule
            go_simp
            try go_ints
            exact hK'
          · intro K' hK'
            simp only [Act.put, List.setIfInBounds_toArray, List.set_cons_zero, List.set_cons_succ]
            exact hK'
        iterate 1
          apply Flow.calm2 _ _ rfl rfl
          · intro w' hb' K' hK'
            obtain ⟨hc', hf'⟩ := hb'.rule
            go_simp
            try go_ints
            exact hK'
          · intro K' hK'
            simp only [Act.put, List.setIfInBounds_toArray, List.set_cons_zero, List.set_cons_succ]
            exact hK'
        iterate 1
          apply Flow.calm2 _ _ rfl rfl
          · intro w' hb' K' hK'
            obtain ⟨hc', hf'⟩ := hb'.rule
            go_simp
            try go_ints
            exact hK'
          · intro K' hK'
            simp only [Act.put, List.setIfInBounds_toArray, List.set_cons_zero, List.set_cons_succ]
            exact hK'
        iterate 1
          apply Flow.calm2 _ _ rfl rfl
          · intro w' hb' K' hK'
            obtain ⟨hc', hf'⟩ := hb'.rule
            go_simp
            try go_ints
            exact hK'
          · intro K' hK'
            simp only [Act.put, List.setIfInBounds_toArray, List.set_cons_zero, List.set_cons_succ]
            exact hK'
        apply Flow.move rfl
        go_wp2_with fail
        refine (HNm.out _).mono ?_
        rintro e w2 ⟨rfl, HB1⟩
        have hb2 : Bl w1 w2 := Bl.ofDrew HB1
        have k2 := (w11.bl hb2).all5
        go_wp2_with fail
        refine ⟨fun _ => (by first | exact HB1 | exact Bl.refl _), ?_⟩
        iterate 1
          apply Flow.calm2 _ _ rfl rfl
          · intro w' hb' K' hK'
            obtain ⟨hc', hf'⟩ := hb'.rule
            go_simp
            try go_ints
            exact hK'
          · intro K' hK'
            simp only [Act.put, List.setIfInBounds_toArray, List.set_cons_zero, List.set_cons_succ]
            exact hK'
        apply Flow.move rfl
        go_wp2_with fail
        refine (when_any _ _ _).mono ?_
        rintro e w' ⟨rfl, rfl⟩
        go_wp2_with fail
        refine ⟨fun _ => (by first | exact HB2 | exact Bl.refl _), ?_⟩
        apply Flow.move rfl
        go_wp2_with fail
        refine (in_any _ _ _ _).mono ?_
        rintro e w' ⟨rfl, rfl⟩
        go_wp2_with fail
        refine ⟨fun _ => (by first | exact HB3 | exact Bl.refl _), ?_⟩
        iterate 1
          apply Flow.calm2 _ _ rfl rfl
          · intro w' hb' K' hK'
            obtain ⟨hc', hf'⟩ := hb'.rule
            go_simp
            try go_ints
            exact hK'
          · intro K' hK'
            simp only [Act.put, List.setIfInBounds_toArray, List.set_cons_zero, List.set_cons_succ]
            exact hK'
        iterate 1
          apply Flow.mv _ rfl
          · intro K' hK'
            simp only [Act.put, Act.eval, List.setIfInBounds_toArray, List.set_cons_zero, List.set_cons_succ, arr_getD, List.getD_cons_zero, List.getD_cons_succ]
            exact hK'
        first
          | (apply Flow.pass rfl (by rfl))
          | (apply Flow.calmG _ rfl (by rfl)
             · intro w' hb'
               obtain ⟨hc', hf'⟩ := hb'.rule
               go_simp
               all_goals (try rfl))
        simp only [Act.put, List.setIfInBounds_toArray, List.set_cons_zero, List.set_cons_succ]
        try go_ints
        first
          | (apply Flow.pass rfl (by rfl))
          | (apply Flow.calmG _ rfl (by rfl)
             · intro w' hb'
               obtain ⟨hc', hf'⟩ := hb'.rule
               go_simp
               all_goals (try rfl))
        simp only [Act.put, List.setIfInBounds_toArray, List.set_cons_zero, List.set_cons_succ]
        try go_ints
        -- a guarded mover
        apply Flow.move rfl
        go_wp2_with fail
        refine (in_any _ _ _ _).mono ?_
        rintro e w' ⟨rfl, rfl⟩
        go_wp2_with fail
        refine ⟨fun _ => (by first | exact HB4 | exact Bl.refl _), ?_⟩
        first
          | (apply Flow.pass rfl (by rfl))
          | (apply Flow.calmG _ rfl (by rfl)
             · intro w' hb'
               obtain ⟨hc', hf'⟩ := hb'.rule
               go_simp
               all_goals (try rfl))
        simp only [Act.put, List.setIfInBounds_toArray, List.set_cons_zero, List.set_cons_succ]
        try go_ints
        iterate 1
          apply Flow.calm2 _ _ rfl rfl
          · intro w' hb' K' hK'
            obtain ⟨hc', hf'⟩ := hb'.rule
            go_simp
            try go_ints
            exact hK'
          · intro K' hK'
            simp only [Act.put, List.setIfInBounds_toArray, List.set_cons_zero, List.set_cons_succ]
            exact hK'
        iterate 1
          apply Flow.mv _ rfl
          · intro K' hK'
            simp only [Act.put, Act.eval, List.setIfInBounds_toArray, List.set_cons_zero, List.set_cons_succ, arr_getD, List.getD_cons_zero, List.getD_cons_succ]
            exact hK'
        first
          | (apply Flow.pass rfl (by rfl))
          | (apply Flow.calmG _ rfl (by rfl)
             · intro w' hb'
               obtain ⟨hc', hf'⟩ := hb'.rule
               go_simp
               all_goals (try rfl))
        simp only [Act.put, List.setIfInBounds_toArray, List.set_cons_zero, List.set_cons_succ]
        try go_ints
        first
          | (apply Flow.pass rfl (by rfl))
          | (apply Flow.calmG _ rfl (by rfl)
             · intro w' hb'
               obtain ⟨hc', hf'⟩ := hb'.rule
               go_simp
               all_goals (try rfl))
        simp only [Act.put, List.setIfInBounds_toArray, List.set_cons_zero, List.set_cons_succ]
        try go_ints
        -- a guarded mover
        apply Flow.move rfl
        go_wp2_with fail
        refine ⟨fun _ => Bl.refl _, ?_⟩
        first
          | (apply Flow.pass rfl (by rfl))
          | (apply Flow.calmG _ rfl (by rfl)
             · intro w' hb'
               obtain ⟨hc', hf'⟩ := hb'.rule
               go_simp
               all_goals (try rfl))
        simp only [Act.put, List.setIfInBounds_toArray, List.set_cons_zero, List.set_cons_succ]
        try go_ints
        iterate 1
          apply Flow.calm2 _ _ rfl rfl
          · intro w' hb' K' hK'
            obtain ⟨hc', hf'⟩ := hb'.rule
            go_simp
            try go_ints
            exact hK'
          · intro K' hK'
            simp only [Act.put, List.setIfInBounds_toArray, List.set_cons_zero, List.set_cons_succ]
            exact hK'
        apply Flow.move rfl
        go_wp2_with fail
        refine (when_any _ _ _).mono ?_
        rintro e w' ⟨rfl, rfl⟩
        go_wp2_with fail
        refine ⟨fun _ => (by first | exact HB6 | exact Bl.refl _), ?_⟩
        apply Flow.move rfl
        go_wp2_with fail
        refine (when_any _ _ _).mono ?_
        rintro e w' ⟨rfl, rfl⟩
        go_wp2_with fail
        refine ⟨fun _ => (by first | exact HB7 | exact Bl.refl _), ?_⟩
        apply Flow.move rfl
        go_wp2_with fail
        refine (when_any _ _ _).mono ?_
        rintro e w' ⟨rfl, rfl⟩
        go_wp2_with fail
        refine ⟨fun _ => (by first | exact HB8 | exact Bl.refl _), ?_⟩
        apply Flow.move rfl
        go_wp2_with fail
        refine (when_any _ _ _).mono ?_
        rintro e w' ⟨rfl, rfl⟩
        go_wp2_with fail
        refine ⟨fun _ => (by first | exact HB9 | exact Bl.refl _), ?_⟩
        apply Flow.move rfl
        go_wp2_with fail
        first | refine ⟨fun _ => ?_, ?_⟩ | refine ⟨?_, ?_⟩
        · repeat' (first | exact Bl.refl _ | refine Bl.drewL ?_ | refine Bl.drew ?_ | refine Bl.alloc ?_ _)
        apply Flow.move rfl
        go_wp2_with fail
        refine (first5_any _ _ _ _ _ _ _ (Blk.new _ _ _)).mono ?_
        rintro e w' ⟨rfl, rfl⟩
        go_wp2_with fail
        refine ⟨fun _ => (by first | exact HB11 | exact Bl.refl _), ?_⟩
        iterate 1
          apply Flow.asg _ rfl
          · intro K' hK'
            simp only [Act.put, Act.eval, List.setIfInBounds_toArray, List.set_cons_zero, List.set_cons_succ, arr_getD, List.getD_cons_zero, List.getD_cons_succ]
            exact hK'
        refine Flow.done ?_
        go_wp2_with fail
        go_meet
        case rel => exact ⟨rfl, hb2.alloc _⟩
      · have hf : firstNZ [whenI (!nameB nm) 5, whenI (!inB sp 1 64) 3, whenI (decide (sp ≤ gap)) 7, whenI ((ls.length : Int) == 0) 9, whenI (decide (200 < (ls.length : Int))) 4] = E0 := by
          rw [HE0.out]; unfold fontHead rangeB; rw [h1, h2]; rw [len0, len200]; rfl
        refine wp_region_flow [(true, 0), (true, 1), (true, 5), (true, 6), (true, 22), (true, 23), (true, 24), (true, 25), (true, 26), (true, 28), (true, 29), (true, 30), (true, 31), (true, 33), (true, 34), (true, 35), (true, 36), (false, 2), (true, 3), (false, 4), (false, 7), (true, 8), (true, 9), (true, 10), (true, 11), (false, 12), (true, 13), (true, 14), (true, 15), (true, 16), (true, 17), (false, 18), (true, 19), (true, 20), (false, 21), (false, 27), (false, 32), (false, 37), (false, 38), (false, 39), (true, 40)] (fun _ => false) (by kernel_rfl) (by kernel_rfl) (by kernel_rfl) (by kernel_rfl) ?_
        iterate 1
          apply Flow.calm2 _ _ rfl rfl
          · intro w' hb' K' hK'
            obtain ⟨hc', hf'⟩ := hb'.rule
            go_simp
            try go_ints
            exact hK'
          · intro K' hK'
            simp only [Act.put, List.setIfInBounds_toArray, List.set_cons_zero, List.set_cons_succ]
            exact hK'
        iterate 1
          apply Flow.calm2 _ _ rfl rfl
          · intro w' hb' K' hK'
            obtain ⟨hc', hf'⟩ := hb'.rule
            go_simp
            try go_ints
            exact hK'
          · intro K' hK'
            simp only [Act.put, List.setIfInBounds_toArray, List.set_cons_zero, List.set_cons_succ]
            exact hK'
        iterate 1
          apply Flow.calm2 _ _ rfl rfl
          · intro w' hb' K' hK'
            obtain ⟨hc', hf'⟩ := hb'.rule
            go_simp
            try go_ints
            exact hK'
          · intro K' hK'
            simp only [Act.put, List.setIfInBounds_toArray, List.set_cons_zero, List.set_cons_succ]
            exact hK'
        iterate 1
          apply Flow.calm2 _ _ rfl rfl
          · intro w' hb' K' hK'
            obtain ⟨hc', hf'⟩ := hb'.rule
            go_simp
            try go_ints
            exact hK'
          · intro K' hK'
            simp only [Act.put, List.setIfInBounds_toArray, List.set_cons_zero, List.set_cons_succ]
            exact hK'
        iterate 1
          apply Flow.calm2 _ _ rfl rfl
          · intro w' hb' K' hK'
            obtain ⟨hc', hf'⟩ := hb'.rule
            go_simp
            try go_ints
            exact hK'
          · intro K' hK'
            simp only [Act.put, List.setIfInBounds_toArray, List.set_cons_zero, List.set_cons_succ]
            exact hK'
        iterate 1
          apply Flow.calm2 _ _ rfl rfl
          · intro w' hb' K' hK'
            obtain ⟨hc', hf'⟩ := hb'.rule
            go_simp
            try go_ints
            exact hK'
          · intro K' hK'
            simp only [Act.put, List.setIfInBounds_toArray, List.set_cons_zero, List.set_cons_succ]
            exact hK'
        iterate 1
          apply Flow.calm2 _ _ rfl rfl
          · intro w' hb' K' hK'
            obtain ⟨hc', hf'⟩ := hb'.rule
            go_simp
            try go_ints
            exact hK'
          · intro K' hK'
            simp only [Act.put, List.setIfInBounds_toArray, List.set_cons_zero, List.set_cons_succ]
            exact hK'
        iterate 1
          apply Flow.calm2 _ _ rfl rfl
          · intro w' hb' K' hK'
            obtain ⟨hc', hf'⟩ := hb'.rule
            go_simp
            try go_ints
            exact hK'
          · intro K' hK'
            simp only [Act.put, List.setIfInBounds_toArray, List.set_cons_zero, List.set_cons_succ]
            exact hK'
        iterate 1
          apply Flow.calm2 _ _ rfl rfl
          · intro w' hb' K' hK'
            obtain ⟨hc', hf'⟩ := hb'.rule
            go_simp
            try go_ints
            exact hK'
          · intro K' hK'
            simp only [Act.put, List.setIfInBounds_toArray, List.set_cons_zero, List.set_cons_succ]
            exact hK'
        iterate 1
          apply Flow.calm2 _ _ rfl rfl
          · intro w' hb' K' hK'
            obtain ⟨hc', hf'⟩ := hb'.rule
            go_simp
            try go_ints
            exact hK'
          · intro K' hK'
            simp only [Act.put, List.setIfInBounds_toArray, List.set_cons_zero, List.set_cons_succ]
            exact hK'
        iterate 1
          apply Flow.calm2 _ _ rfl rfl
          · intro w' hb' K' hK'
            obtain ⟨hc', hf'⟩ := hb'.rule
            go_simp
            try go_ints
            exact hK'
          · intro K' hK'
            simp only [Act.put, List.setIfInBounds_toArray, List.set_cons_zero, List.set_cons_succ]
            exact hK'
        iterate 1
          apply Flow.calm2 _ _ rfl rfl
          · intro w' hb' K' hK'
            obtain ⟨hc', hf'⟩ := hb'.rule
            go_simp
            try go_ints
            exact hK'
          · intro K' hK'
            simp only [Act.put, List.setIfInBounds_toArray, List.set_cons_zero, List.set_cons_succ]
            exact hK'
        iterate 1
          apply Flow.calm2 _ _ rfl rfl
          · intro w' hb' K' hK'
            obtain ⟨hc', hf'⟩ := hb'.rule
            go_simp
            try go_ints
            exact hK'
          · intro K' hK'
            simp only [Act.put, List.setIfInBounds_toArray, List.set_cons_zero, List.set_cons_succ]
            exact hK'
        iterate 1
          apply Flow.calm2 _ _ rfl rfl
          · intro w' hb' K' hK'
            obtain ⟨hc', hf'⟩ := hb'.rule
            go_simp
            try go_ints
            exact hK'
          · intro K' hK'
            simp only [Act.put, List.setIfInBounds_toArray, List.set_cons_zero, List.set_cons_succ]
            exact hK'
        iterate 1
          apply Flow.calm2 _ _ rfl rfl
          · intro w' hb' K' hK'
            obtain ⟨hc', hf'⟩ := hb'.rule
            go_simp
            try go_ints
            exact hK'
          · intro K' hK'
            simp only [Act.put, List.setIfInBounds_toArray, List.set_cons_zero, List.set_cons_succ]
            exact hK'
        iterate 1
          apply Flow.calm2 _ _ rfl rfl
          · intro w' hb' K' hK'
            obtain ⟨hc', hf'⟩ := hb'.rule
            go_simp
            try go_ints
            exact hK'
          · intro K' hK'
            simp only [Act.put, List.setIfInBounds_toArray, List.set_cons_zero, List.set_cons_succ]
            exact hK'
        iterate 1
          apply Flow.calm2 _ _ rfl rfl
          · intro w' hb' K' hK'
            obtain ⟨hc', hf'⟩ := hb'.rule
            go_simp
            try go_ints
            exact hK'
          · intro K' hK'
            simp only [Act.put, List.setIfInBounds_toArray, List.set_cons_zero, List.set_cons_succ]
            exact hK'
        apply Flow.move rfl
        go_wp2_with fail
        refine (HNm.out _).mono ?_
        rintro e w2 ⟨rfl, HB1⟩
        have hb2 : Bl w1 w2 := Bl.ofDrew HB1
        have k2 := (w11.bl hb2).all5
        go_wp2_with fail
        refine ⟨fun _ => (by first | exact HB1 | exact Bl.refl _), ?_⟩
        iterate 1
          apply Flow.calm2 _ _ rfl rfl
          · intro w' hb' K' hK'
            obtain ⟨hc', hf'⟩ := hb'.rule
            go_simp
            try go_ints
            exact hK'
          · intro K' hK'
            simp only [Act.put, List.setIfInBounds_toArray, List.set_cons_zero, List.set_cons_succ]
            exact hK'
        apply Flow.move rfl
        go_wp2_with fail
        refine (when_any _ _ _).mono ?_
        rintro e w' ⟨rfl, rfl⟩
        go_wp2_with fail
        refine ⟨fun _ => (by first | exact HB2 | exact Bl.refl _), ?_⟩
        apply Flow.move rfl
        go_wp2_with fail
        refine (in_any _ _ _ _).mono ?_
        rintro e w' ⟨rfl, rfl⟩
        go_wp2_with fail
        refine ⟨fun _ => (by first | exact HB3 | exact Bl.refl _), ?_⟩
        iterate 1
          apply Flow.calm2 _ _ rfl rfl
          · intro w' hb' K' hK'
            obtain ⟨hc', hf'⟩ := hb'.rule
            go_simp
            try go_ints
            exact hK'
          · intro K' hK'
            simp only [Act.put, List.setIfInBounds_toArray, List.set_cons_zero, List.set_cons_succ]
            exact hK'
        iterate 1
          apply Flow.mv _ rfl
          · intro K' hK'
            simp only [Act.put, Act.eval, List.setIfInBounds_toArray, List.set_cons_zero, List.set_cons_succ, arr_getD, List.getD_cons_zero, List.getD_cons_succ]
            exact hK'
        first
          | (apply Flow.pass rfl (by rfl))
          | (apply Flow.calmG _ rfl (by rfl)
             · intro w' hb'
               obtain ⟨hc', hf'⟩ := hb'.rule
               go_simp
               all_goals (try rfl))
        simp only [Act.put, List.setIfInBounds_toArray, List.set_cons_zero, List.set_cons_succ]
        try go_ints
        first
          | (apply Flow.pass rfl (by rfl))
          | (apply Flow.calmG _ rfl (by rfl)
             · intro w' hb'
               obtain ⟨hc', hf'⟩ := hb'.rule
               go_simp
               all_goals (try rfl))
        simp only [Act.put, List.setIfInBounds_toArray, List.set_cons_zero, List.set_cons_succ]
        try go_ints
        -- a guarded mover
        apply Flow.move rfl
        go_wp2_with fail
        refine (in_any _ _ _ _).mono ?_
        rintro e w' ⟨rfl, rfl⟩
        go_wp2_with fail
        refine ⟨fun _ => (by first | exact HB4 | exact Bl.refl _), ?_⟩
        first
          | (apply Flow.pass rfl (by rfl))
          | (apply Flow.calmG _ rfl (by rfl)
             · intro w' hb'
               obtain ⟨hc', hf'⟩ := hb'.rule
               go_simp
               all_goals (try rfl))
        simp only [Act.put, List.setIfInBounds_toArray, List.set_cons_zero, List.set_cons_succ]
        try go_ints
        iterate 1
          apply Flow.calm2 _ _ rfl rfl
          · intro w' hb' K' hK'
            obtain ⟨hc', hf'⟩ := hb'.rule
            go_simp
            try go_ints
            exact hK'
          · intro K' hK'
            simp only [Act.put, List.setIfInBounds_toArray, List.set_cons_zero, List.set_cons_succ]
            exact hK'
        iterate 1
          apply Flow.mv _ rfl
          · intro K' hK'
            simp only [Act.put, Act.eval, List.setIfInBounds_toArray, List.set_cons_zero, List.set_cons_succ, arr_getD, List.getD_cons_zero, List.getD_cons_succ]
            exact hK'
        first
          | (apply Flow.pass rfl (by rfl))
          | (apply Flow.calmG _ rfl (by rfl)
             · intro w' hb'
               obtain ⟨hc', hf'⟩ := hb'.rule
               go_simp
               all_goals (try rfl))
        simp only [Act.put, List.setIfInBounds_toArray, List.set_cons_zero, List.set_cons_succ]
        try go_ints
        first
          | (apply Flow.pass rfl (by rfl))
          | (apply Flow.calmG _ rfl (by rfl)
             · intro w' hb'
               obtain ⟨hc', hf'⟩ := hb'.rule
               go_simp
               all_goals (try rfl))
        simp only [Act.put, List.setIfInBounds_toArray, List.set_cons_zero, List.set_cons_succ]
        try go_ints
        -- a guarded mover
        apply Flow.move rfl
        go_wp2_with fail
        refine (in_any _ _ _ _).mono ?_
        rintro e w' ⟨rfl, rfl⟩
        go_wp2_with fail
        refine ⟨fun _ => (by first | exact HB5 | exact Bl.refl _), ?_⟩
        first
          | (apply Flow.pass rfl (by rfl))
          | (apply Flow.calmG _ rfl (by rfl)
             · intro w' hb'
               obtain ⟨hc', hf'⟩ := hb'.rule
               go_simp
               all_goals (try rfl))
        simp only [Act.put, List.setIfInBounds_toArray, List.set_cons_zero, List.set_cons_succ]
        try go_ints
        iterate 1
          apply Flow.calm2 _ _ rfl rfl
          · intro w' hb' K' hK'
            obtain ⟨hc', hf'⟩ := hb'.rule
            go_simp
            try go_ints
            exact hK'
          · intro K' hK'
            simp only [Act.put, List.setIfInBounds_toArray, List.set_cons_zero, List.set_cons_succ]
            exact hK'
        apply Flow.move rfl
        go_wp2_with fail
        refine (when_any _ _ _).mono ?_
        rintro e w' ⟨rfl, rfl⟩
        go_wp2_with fail
        refine ⟨fun _ => (by first | exact HB6 | exact Bl.refl _), ?_⟩
        apply Flow.move rfl
        go_wp2_with fail
        refine (when_any _ _ _).mono ?_
        rintro e w' ⟨rfl, rfl⟩
        go_wp2_with fail
        refine ⟨fun _ => (by first | exact HB7 | exact Bl.refl _), ?_⟩
        apply Flow.move rfl
        go_wp2_with fail
        refine (when_any _ _ _).mono ?_
        rintro e w' ⟨rfl, rfl⟩
        go_wp2_with fail
        refine ⟨fun _ => (by first | exact HB8 | exact Bl.refl _), ?_⟩
        apply Flow.move rfl
        go_wp2_with fail
        refine (when_any _ _ _).mono ?_
        rintro e w' ⟨rfl, rfl⟩
        go_wp2_with fail
        refine ⟨fun _ => (by first | exact HB9 | exact Bl.refl _), ?_⟩
        apply Flow.move rfl
        go_wp2_with fail
        first | refine ⟨fun _ => ?_, ?_⟩ | refine ⟨?_, ?_⟩
        · repeat' (first | exact Bl.refl _ | refine Bl.drewL ?_ | refine Bl.drew ?_ | refine Bl.alloc ?_ _)
        apply Flow.move rfl
        go_wp2_with fail
        refine (first5_any _ _ _ _ _ _ _ (Blk.new _ _ _)).mono ?_
        rintro e w' ⟨rfl, rfl⟩
        go_wp2_with fail
        refine ⟨fun _ => (by first | exact HB11 | exact Bl.refl _), ?_⟩
        iterate 1
          apply Flow.asg _ rfl
          · intro K' hK'
            simp only [Act.put, Act.eval, List.setIfInBounds_toArray, List.set_cons_zero, List.set_cons_succ, arr_getD, List.getD_cons_zero, List.getD_cons_succ]
            exact hK'
        refine Flow.done ?_
        go_wp2_with fail
        go_meet
        case rel => exact ⟨rfl, hb2.alloc _⟩
  case rest =>
    rename World => wc
    obtain ⟨rfl, hbc⟩ := hcut
    have k5 := (w11.bl hbc).all5
    clear k1
    by_cases hz : E0 = 0
    case neg =>
      have hq : (E0 == 0) = false := by simp [hz]
      have HX := Lib.hid (show fontErr (nameB nm) ht gap sp ls = E0 by unfold fontErr; rw [← HE0.out, if_neg hz])
      clear hz
      go_wp2_with fail
      go_ret
      exact ⟨by rw [HX.out]; rfl, w1b.trans hbc⟩
    case pos =>
      subst hz
      have HX := Lib.hid (show fontErr (nameB nm) ht gap sp ls = ltrsErr ht [] ls by unfold fontErr; rw [← HE0.out, if_pos rfl])
      clear HE0
      go_wp2_with fail
      go_loopw [54] (fun u wr => ∃ i : Nat, i ≤ ls.length ∧ u = .int .i64 i ∧ Bl w1 wr ∧ ltrsErr ht ((ls.take i).map Ltr.text) (ls.drop i) = ltrsErr ht [] ls) (fun u _ => ls.length - (RowKit.intOf u).toNat)
      case atStart => exact ⟨0, Nat.zero_le _, rfl, hbc, by simp⟩
      case round =>
        obtain ⟨i, hi, rfl, hbr, hrs⟩ := hrel
        clear k5
        have HRs := Lib.hid hrs
        have k5 := (w11.bl hbr).all5
        clear hrs
        by_cases hlt : i < ls.length
        · have hg : ls[i]? = some ls[i] := List.getElem?_eq_getElem hlt
          obtain ⟨l, hl⟩ : ∃ l, l = ls[i] := ⟨_, rfl⟩
          rw [← hl] at hg
          obtain ⟨ad, rfl, k1, k2, k3, k4⟩ := (HL.out.bl hbr).at_ hg
          have HA := Lib.hid (((HL.out.bl hbr).2 l (List.mem_of_getElem? hg)))
          have HG := Lib.hid hg
          clear hg hl
          go_upto_region 7 with fail
          obtain ⟨w5, hw5⟩ : ∃ x, x = wr.alloc (.cells #[.string ⟨l.text.toArray⟩, .int .i64 l.W, .int .i64 l.H, .slice l.A l.m l.c] 122) := ⟨_, rfl⟩
          have b5 : Blk w5 wr.heap.size 122 #[.string ⟨l.text.toArray⟩, .int .i64 l.W, .int .i64 l.H, .slice l.A l.m l.c] := by rw [hw5]; exact Blk.new _ _ _
          have hb5 : Bl w1 w5 := by rw [hw5]; exact hbr.alloc _
          rw [← hw5]
          have k5 := (w11.bl hb5).all5
          have k6 := b5.all4
          have htx := HA.out.2
          have hcon := letter_twice (some ad) c ls i (by omega) wr.heap.size l w5 (HL.out.bl hb5) b5 hn
          obtain ⟨pv, hpv⟩ : ∃ x, x = (ls.take i).map Ltr.text := ⟨_, rfl⟩
          have hrs := HRs.out
          have hfr := ltrsErr_from (ht := ht) HG.out
          rw [← hpv] at hcon hrs hfr
          have HRs := Lib.hid hrs; have HF := Lib.hid hfr
          clear hrs hfr hpv
          obtain ⟨E1, hE1⟩ : ∃ E, E = ltrE1 pv l := ⟨_, rfl⟩
          have hf1 : firstNZ [whenI (!textB l.text) 2, whenI (decide (l.text ∈ pv)) 6, pageErr l.W l.H l.m] = E1 := by rw [hE1]; rfl
          have HE1 := Lib.hid hE1; have Hcon := Lib.hid hcon; have B5 := Lib.hid b5; have Hw5 := Lib.hid hb5
          have hic : i ≤ c := by omega
          clear hw5 hE1 k1 k2 k3 k4 hcon b5 hb5
          refine wp_region_flow [(true, 0), (true, 1), (true, 5), (true, 6), (true, 7), (true, 8), (true, 9), (true, 12), (true, 13), (false, 2), (true, 3), (false, 4), (false, 10), (false, 11), (false, 14), (false, 15), (false, 16), (true, 17)] (fun _ => false) (by kernel_rfl) (by kernel_rfl) (by kernel_rfl) (by kernel_rfl) ?_
          iterate 1
            apply Flow.calm2 _ _ rfl rfl
            · intro w' hb' K' hK'
              obtain ⟨hc', hf'⟩ := hb'.rule
              go_simp
              try go_ints
              exact hK'
            · intro K' hK'
              simp only [Act.put, List.setIfInBounds_toArray, List.set_cons_zero, List.set_cons_succ]
              exact hK'
          iterate 1
            apply Flow.calm2 _ _ rfl rfl
            · intro w' hb' K' hK'
              obtain ⟨hc', hf'⟩ := hb'.rule
              go_simp
              try go_ints
              exact hK'
            · intro K' hK'
              simp only [Act.put, List.setIfInBounds_toArray, List.set_cons_zero, List.set_cons_succ]
              exact hK'
          iterate 1
            apply Flow.calm2 _ _ rfl rfl
            · intro w' hb' K' hK'
              obtain ⟨hc', hf'⟩ := hb'.rule
              go_simp
              try go_ints
              exact hK'
            · intro K' hK'
              simp only [Act.put, List.setIfInBounds_toArray, List.set_cons_zero, List.set_cons_succ]
              exact hK'
          iterate 1
            apply Flow.calm2 _ _ rfl rfl
            · intro w' hb' K' hK'
              obtain ⟨hc', hf'⟩ := hb'.rule
              go_simp
              try go_ints
              exact hK'
            · intro K' hK'
              simp only [Act.put, List.setIfInBounds_toArray, List.set_cons_zero, List.set_cons_succ]
              exact hK'
          iterate 1
            apply Flow.mv _ rfl
            · intro K' hK'
              simp only [Act.put, Act.eval, List.setIfInBounds_toArray, List.set_cons_zero, List.set_cons_succ, arr_getD, List.getD_cons_zero, List.getD_cons_succ]
              exact hK'
          iterate 1
            apply Flow.calm2 _ _ rfl rfl
            · intro w' hb' K' hK'
              obtain ⟨hc', hf'⟩ := hb'.rule
              go_simp
              try go_ints
              exact hK'
            · intro K' hK'
              simp only [Act.put, List.setIfInBounds_toArray, List.set_cons_zero, List.set_cons_succ]
              exact hK'
          iterate 1
            apply Flow.calm2 _ _ rfl rfl
            · intro w' hb' K' hK'
              obtain ⟨hc', hf'⟩ := hb'.rule
              go_simp
              try go_ints
              exact hK'
            · intro K' hK'
              simp only [Act.put, List.setIfInBounds_toArray, List.set_cons_zero, List.set_cons_succ]
              exact hK'
          iterate 1
            apply Flow.calm2 _ _ rfl rfl
            · intro w' hb' K' hK'
              obtain ⟨hc', hf'⟩ := hb'.rule
              go_simp
              try go_ints
              exact hK'
            · intro K' hK'
              simp only [Act.put, List.setIfInBounds_toArray, List.set_cons_zero, List.set_cons_succ]
              exact hK'
          iterate 1
            apply Flow.calm2 _ _ rfl rfl
            · intro w' hb' K' hK'
              obtain ⟨hc', hf'⟩ := hb'.rule
              go_simp
              try go_ints
              exact hK'
            · intro K' hK'
              simp only [Act.put, List.setIfInBounds_toArray, List.set_cons_zero, List.set_cons_succ]
              exact hK'
          apply Flow.move rfl
          go_wp2_with fail
          refine (letterText_any _ _ htx).mono ?_
          rintro e w' ⟨rfl, rfl⟩
          go_wp2_with fail
          refine ⟨fun _ => (by first | exact HB1 | exact Bl.refl _), ?_⟩
          iterate 1
            apply Flow.calm2 _ _ rfl rfl
            · intro w' hb' K' hK'
              obtain ⟨hc', hf'⟩ := hb'.rule
              go_simp
              try go_ints
              exact hK'
            · intro K' hK'
              simp only [Act.put, List.setIfInBounds_toArray, List.set_cons_zero, List.set_cons_succ]
              exact hK'
          apply Flow.move rfl
          go_wp2_with fail
          refine (when_any _ _ _).mono ?_
          rintro e w' ⟨rfl, rfl⟩
          go_wp2_with fail
          refine ⟨fun _ => (by first | exact HB2 | exact Bl.refl _), ?_⟩
          apply Flow.move rfl
          go_wp2_with fail
          refine (Hcon.out _ ((Bl.refl _).drew)).mono ?_
          rintro e w6 ⟨rfl, HB3⟩
          go_wp2_with fail
          refine ⟨fun _ => (by first | exact HB3 | exact Bl.refl _), ?_⟩
          apply Flow.move rfl
          go_wp2_with fail
          refine (when_any _ _ _).mono ?_
          rintro e w' ⟨rfl, rfl⟩
          go_wp2_with fail
          refine ⟨fun _ => (by first | exact HB4 | exact Bl.refl _), ?_⟩
          apply Flow.move rfl
          go_wp2_with fail
          refine (bitsError_any _ _ _ _ _ _).mono ?_
          rintro e w7 ⟨rfl, HB5⟩
          go_wp2_with fail
          refine ⟨fun _ => (by first | exact HB5 | exact Bl.refl _), ?_⟩
          apply Flow.move rfl
          go_wp2_with fail
          first | refine ⟨fun _ => ?_, ?_⟩ | refine ⟨?_, ?_⟩
          · repeat' (first | exact Bl.refl _ | refine Bl.drewL ?_ | refine Bl.drew ?_ | refine Bl.alloc ?_ _)
          apply Flow.move rfl
          go_wp2_with fail
          refine (first3_any _ _ _ _ _ (Blk.new _ _ _)).mono ?_
          rintro e w' ⟨rfl, rfl⟩
          go_wp2_with fail
          refine ⟨fun _ => (by first | exact HB7 | exact Bl.refl _), ?_⟩
          iterate 1
            apply Flow.asg _ rfl
            · intro K' hK'
              simp only [Act.put, Act.eval, List.setIfInBounds_toArray, List.set_cons_zero, List.set_cons_succ, arr_getD, List.getD_cons_zero, List.getD_cons_succ]
              exact hK'
          refine Flow.done ?_
          have hb8 : Bl w5 (w7.alloc (.cells #[.int .i64 (whenI (!textB l.text) 2), .int .i64 (whenI (decide (l.text ∈ pv)) 6), .int .i64 (pageErr l.W l.H l.m)] 23)) := ((Bl.ofDrew HB3).trans HB5).alloc _
          clear HB3 HB5
          obtain ⟨w8, hw8⟩ : ∃ x, x = w7.alloc (.cells #[.int .i64 (whenI (!textB l.text) 2), .int .i64 (whenI (decide (l.text ∈ pv)) 6), .int .i64 (pageErr l.W l.H l.m)] 23) := ⟨_, rfl⟩
          rw [← hw8] at hb8 ⊢
          have HB8 := Lib.hid (Hw5.out.trans hb8)
          have k5 := (w11.bl HB8.out).all5
          have b8 := B5.out.bl hb8
          have k6 := b8.all4
          clear hw8 hb8 hf1
          by_cases hz : E1 = 0
          case neg =>
            have hq : (E1 == 0) = false := by simp [hz]
            have HY := Lib.hid (show ltrsErr ht [] ls = E1 by rw [← HRs.out, HF.out, ltrErr_parts, ← HE1.out, if_neg hz, if_neg hz])
            clear hz
            go_wp2_with fail
            go_ret
            exact ⟨by rw [HX.out, HY.out]; rfl, w1b.trans HB8.out⟩
          case pos =>
            subst hz
            have HP := Lib.hid (ltrE1_zero HE1.out.symm)
            have hbare := letter_bare l w8 ((HL.out.bl HB8.out).2 l (List.mem_of_getElem? HG.out)).1 HP.out
            have Hbare := Lib.hid hbare
            obtain ⟨E2, hE2⟩ : ∃ E, E = ltrE2 ht l := ⟨_, rfl⟩
            have hf2 : firstNZ [whenI (l.H != ht) 11, whenI (decide (64 < l.W)) 4, whenI (bareB l.bs l.W.toNat l.H.toNat) 2] = E2 := by rw [hE2]; rfl
            have HE2 := Lib.hid hE2
            clear hE2 hbare
            go_upto_region 10 with fail
            refine wp_region_flow [(true, 0), (true, 1), (true, 2), (true, 3), (true, 4), (true, 5), (true, 7), (true, 8), (true, 9), (true, 10), (true, 12), (true, 13), (false, 6), (false, 11), (false, 14), (false, 15), (false, 16), (false, 17), (false, 18), (true, 19)] (fun _ => false) (by kernel_rfl) (by kernel_rfl) (by kernel_rfl) (by kernel_rfl) ?_
            iterate 2
              apply Flow.calm2 _ _ rfl rfl
              · intro w' hb' K' hK'
                obtain ⟨hc', hf'⟩ := hb'.rule
                go_simp
                try go_ints
                exact hK'
              · intro K' hK'
                simp only [Act.put, List.setIfInBounds_toArray, List.set_cons_zero, List.set_cons_succ]
                exact hK'
            iterate 1
              apply Flow.calm2 _ _ rfl rfl
              · intro w' hb' K' hK'
                obtain ⟨hc', hf'⟩ := hb'.rule
                go_simp
                try go_ints
                exact hK'
              · intro K' hK'
                simp only [Act.put, List.setIfInBounds_toArray, List.set_cons_zero, List.set_cons_succ]
                exact hK'
            iterate 1
              apply Flow.calm2 _ _ rfl rfl
              · intro w' hb' K' hK'
                obtain ⟨hc', hf'⟩ := hb'.rule
                go_simp
                try go_ints
                exact hK'
              · intro K' hK'
                simp only [Act.put, List.setIfInBounds_toArray, List.set_cons_zero, List.set_cons_succ]
                exact hK'
            iterate 1
              apply Flow.calm2 _ _ rfl rfl
              · intro w' hb' K' hK'
                obtain ⟨hc', hf'⟩ := hb'.rule
                go_simp
                try go_ints
                exact hK'
              · intro K' hK'
                simp only [Act.put, List.setIfInBounds_toArray, List.set_cons_zero, List.set_cons_succ]
                exact hK'
            iterate 1
              apply Flow.calm2 _ _ rfl rfl
              · intro w' hb' K' hK'
                obtain ⟨hc', hf'⟩ := hb'.rule
                go_simp
                try go_ints
                exact hK'
              · intro K' hK'
                simp only [Act.put, List.setIfInBounds_toArray, List.set_cons_zero, List.set_cons_succ]
                exact hK'
            iterate 2
              apply Flow.calm2 _ _ rfl rfl
              · intro w' hb' K' hK'
                obtain ⟨hc', hf'⟩ := hb'.rule
                go_simp
                try go_ints
                exact hK'
              · intro K' hK'
                simp only [Act.put, List.setIfInBounds_toArray, List.set_cons_zero, List.set_cons_succ]
                exact hK'
            iterate 1
              apply Flow.calm2 _ _ rfl rfl
              · intro w' hb' K' hK'
                obtain ⟨hc', hf'⟩ := hb'.rule
                go_simp
                try go_ints
                exact hK'
              · intro K' hK'
                simp only [Act.put, List.setIfInBounds_toArray, List.set_cons_zero, List.set_cons_succ]
                exact hK'
            iterate 1
              apply Flow.calm2 _ _ rfl rfl
              · intro w' hb' K' hK'
                obtain ⟨hc', hf'⟩ := hb'.rule
                go_simp
                try go_ints
                exact hK'
              · intro K' hK'
                simp only [Act.put, List.setIfInBounds_toArray, List.set_cons_zero, List.set_cons_succ]
                exact hK'
            iterate 1
              apply Flow.calm2 _ _ rfl rfl
              · intro w' hb' K' hK'
                obtain ⟨hc', hf'⟩ := hb'.rule
                go_simp
                try go_ints
                exact hK'
              · intro K' hK'
                simp only [Act.put, List.setIfInBounds_toArray, List.set_cons_zero, List.set_cons_succ]
                exact hK'
            iterate 1
              apply Flow.calm2 _ _ rfl rfl
              · intro w' hb' K' hK'
                obtain ⟨hc', hf'⟩ := hb'.rule
                go_simp
                try go_ints
                exact hK'
              · intro K' hK'
                simp only [Act.put, List.setIfInBounds_toArray, List.set_cons_zero, List.set_cons_succ]
                exact hK'
            apply Flow.move rfl
            go_wp2_with fail
            refine (when_any _ _ _).mono ?_
            rintro e w' ⟨rfl, rfl⟩
            go_wp2_with fail
            refine ⟨fun _ => (by first | exact HB1 | exact Bl.refl _), ?_⟩
            apply Flow.move rfl
            go_wp2_with fail
            refine (when_any _ _ _).mono ?_
            rintro e w' ⟨rfl, rfl⟩
            go_wp2_with fail
            refine ⟨fun _ => (by first | exact HB2 | exact Bl.refl _), ?_⟩
            apply Flow.move rfl
            go_wp2_with fail
            refine (Hbare.out _ ((Bl.refl _).drew)).mono ?_
            rintro e w9 ⟨P, n, d, rfl, HB3, hcon⟩
            go_wp2_with fail
            refine ⟨fun _ => (by first | exact HB3 | exact Bl.refl _), ?_⟩
            apply Flow.move rfl
            go_wp2_with fail
            refine (hcon _ (Bl.refl _)).mono ?_
            rintro e w' ⟨rfl, rfl⟩
            go_wp2_with fail
            refine ⟨fun _ => (by first | exact HB4 | exact Bl.refl _), ?_⟩
            apply Flow.move rfl
            go_wp2_with fail
            refine (when_any _ _ _).mono ?_
            rintro e w' ⟨rfl, rfl⟩
            go_wp2_with fail
            refine ⟨fun _ => (by first | exact HB5 | exact Bl.refl _), ?_⟩
            apply Flow.move rfl
            go_wp2_with fail
            first | refine ⟨fun _ => ?_, ?_⟩ | refine ⟨?_, ?_⟩
            · repeat' (first | exact Bl.refl _ | refine Bl.drewL ?_ | refine Bl.drew ?_ | refine Bl.alloc ?_ _)
            apply Flow.move rfl
            go_wp2_with fail
            refine (first3_any _ _ _ _ _ (Blk.new _ _ _)).mono ?_
            rintro e w' ⟨rfl, rfl⟩
            go_wp2_with fail
            refine ⟨fun _ => (by first | exact HB7 | exact Bl.refl _), ?_⟩
            iterate 1
              apply Flow.asg _ rfl
              · intro K' hK'
                simp only [Act.put, Act.eval, List.setIfInBounds_toArray, List.set_cons_zero, List.set_cons_succ, arr_getD, List.getD_cons_zero, List.getD_cons_succ]
                exact hK'
            refine Flow.done ?_
            have hb10 : Bl w8 (w9.alloc (.cells #[.int .i64 (whenI (l.H != ht) 11), .int .i64 (whenI (decide (64 < l.W)) 4), .int .i64 (whenI (bareB l.bs l.W.toNat l.H.toNat) 2)] 23)) := (Bl.ofDrew HB3).alloc _
            have HB10 := Lib.hid (HB8.out.trans hb10)
            clear hf2 hb10 HB3 hcon k5 k6
            by_cases hz : E2 = 0
            case neg =>
              have hq : (E2 == 0) = false := by simp [hz]
              have HY := Lib.hid (show ltrsErr ht [] ls = E2 by rw [← HRs.out, HF.out, ltrErr_parts, ← HE1.out, if_pos rfl, ← HE2.out, if_neg hz])
              clear hz
              go_wp2_with fail
              go_ret
              exact ⟨by rw [HX.out, HY.out]; rfl, w1b.trans HB10.out⟩
            case pos =>
              subst hz
              have HY := Lib.hid (show ltrsErr ht ((ls.take (i + 1)).map Ltr.text) (ls.drop (i + 1)) = ltrsErr ht [] ls by rw [← HRs.out, HF.out, ltrErr_parts, ← HE1.out, if_pos rfl, ← HE2.out, if_pos rfl])
              go_wp2_with fail
              exact ⟨⟨i + 1, hlt, by go_num, HB10.out, HY.out⟩, by simp [RowKit.intOf]; omega⟩
        · obtain rfl : i = ls.length := by omega
          have HY := Lib.hid (show ltrsErr ht [] ls = 0 by rw [← HRs.out, List.drop_length]; rfl)
          go_wp2_with fail
          go_ret
          exact ⟨by rw [HX.out, HY.out]; rfl, w1b.trans hbr⟩

end Go.Proofs.YtjelhdpcaileiaaGreatDoor
