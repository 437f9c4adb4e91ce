/- glyph.Pieces. -/
import Derived.Test.YthobmednnocklaaGreatDoorMClaimLinesAreRead3
import Derived.Test.YthobmednnocklaaGreatDoorMClaimLinesAreRead4
import Derived.Test.YthobmednnocklaaGreatDoorMClaimLinesAreRead2
import Derived.Test.YthobmednnocklaaGreatDoorMClaimLinesAreRead1

namespace Go.Proofs.YthobmednnocklaaGreatDoor
open Go.RowKit

theorem Blk.all5 {w : World} {g : Nat} {t : TypeId} {x y z u v : Value} (h : Blk w g t #[x, y, z, u, v]) : w.cell? ⟨g, 0, none⟩ = some x ∧ w.cell? ⟨g, 1, none⟩ = some y ∧ w.cell? ⟨g, 2, none⟩ = some z ∧ w.cell? ⟨g, 3, none⟩ = some u ∧ w.cell? ⟨g, 4, none⟩ = some v ∧ ∀ i, w.frozen? ⟨g, i, none⟩ = false := ⟨h.cell 0, h.cell 1, h.cell 2, h.cell 3, h.cell 4, h.frozen⟩
theorem first5_any (e1 e2 e3 e4 e5 : Int) (g : Nat) (w : World) (h : Blk w g 31 #[.int .i64 e1, .int .i64 e2, .int .i64 e3, .int .i64 e4, .int .i64 e5]) :
 Calls Tryz.prog 7 #[.slice (some ⟨g, 0, none⟩) 5 5] w fun e w' => e = .returned (.int .i64 (firstNZ [e1, e2, e3, e4, e5])) ∧ w = w' :=
 first_any (some ⟨g, 0, none⟩) 5 [e1, e2, e3, e4, e5] w (h.reads 5 1 rfl) (by simp)
theorem firstNZ_append (a b : List Int) : firstNZ (a ++ b) = if firstNZ a = 0 then firstNZ b else firstNZ a := by
 induction a with
 | nil => simp [firstNZ]
 | cons x a ih =>
  show (if x = 0 then firstNZ (a ++ b) else x) = _
  by_cases h : x = 0
  · rw [if_pos h, ih]
    show _ = if (if x = 0 then firstNZ a else x) = 0 then _ else (if x = 0 then firstNZ a else x)
    rw [if_pos h]
  · rw [if_neg h]
    show _ = if (if x = 0 then firstNZ a else x) = 0 then _ else (if x = 0 then firstNZ a else x)
    rw [if_neg h, if_neg h]
/-- What is asked of a letter first .. -/
def ltrE1 (prev : List (List UInt8)) (l : Ltr) : Int := firstNZ [whenI (!textB l.text) 2, whenI (decide (l.text ∈ prev)) 6, pageErr l.W l.H l.m]
/-- .. and then. -/
def ltrE2 (ht : Int) (l : Ltr) : Int := firstNZ [whenI (l.H != ht) 11, whenI (decide (64 < l.W)) 4, whenI (bareB l.bs l.W.toNat l.H.toNat) 2]
theorem ltrErr_parts (ht : Int) (prev : List (List UInt8)) (l : Ltr) : ltrErr ht prev l = if ltrE1 prev l = 0 then ltrE2 ht l else ltrE1 prev l :=
 firstNZ_append [whenI (!textB l.text) 2, whenI (decide (l.text ∈ prev)) 6, pageErr l.W l.H l.m] _
theorem ltrE1_zero {prev : List (List UInt8)} {l : Ltr} (h : ltrE1 prev l = 0) : pageErr l.W l.H l.m = 0 := by
 unfold ltrE1 at h
 have h2 := firstNZ_append [whenI (!textB l.text) 2, whenI (decide (l.text ∈ prev)) 6] [pageErr l.W l.H l.m]
 rw [show [whenI (!textB l.text) 2, whenI (decide (l.text ∈ prev)) 6] ++ [pageErr l.W l.H l.m] = [whenI (!textB l.text) 2, whenI (decide (l.text ∈ prev)) 6, pageErr l.W l.H l.m] from rfl, h] at h2
 split at h2
 · simp only [firstNZ] at h2
   by_cases h3 : pageErr l.W l.H l.m = 0
   · exact h3
   · rw [if_neg h3] at h2; exact h2.symm
 · rename_i h3; exact absurd h2.symm h3

set_option maxRecDepth 100000 in
set_option maxHeartbeats 1000000 in
theorem fontError1_any (b : Nat) (l y : Ltr) (w : World) (hb : Blk w b 88 #[.string ⟨l.text.toArray⟩, .int .i64 l.W, .int .i64 l.H, .slice l.A l.m l.c]) :
 Calls Tryz.prog 39 #[y.val, .pointer (some ⟨b, 0, none⟩)] w fun e w' => e = .returned (.bool (decide (y.text = l.text))) ∧ Bl w w' := by
 have k1 := hb.all4
 have hlt := hb.lt
 unfold Ltr.val
 by_cases he : y.text = l.text
 · rw [decide_eq_true he]
   go_enter Tryz.func39, Tryz.ntmps39
   go_wp2_with fail
   go_ret
   exact ⟨by simp [he], (Bl.refl _).alloc _⟩
 · rw [decide_eq_false he]
   go_enter Tryz.func39, Tryz.ntmps39
   go_wp2_with fail
   go_ret
   exact ⟨by simp [he], (Bl.refl _).alloc _⟩

end Go.Proofs.YthobmednnocklaaGreatDoor


/-! bedref2.FontError is fontErr. -/
namespace Go.Proofs.YthobmednnocklaaGreatDoor
open Go.RowKit

theorem bare_mem (bs : List Bool) (W H : Nat) : decide ((0 : Int) ∈ tabL W (colI bs W H)) = bareB bs W H := by
 unfold bareB
 apply decide_eq_decide.2
 constructor
 · intro h
   obtain ⟨x, hx⟩ := List.getElem?_of_mem h
   have hlt : x < W := by have := (List.getElem?_eq_some_iff.1 hx).1; rwa [tabL_len] at this
   rw [tabL_get _ hlt] at hx
   have h2 : colI bs W H x = 0 := Option.some.inj hx
   exact ⟨x, hlt, by unfold colI at h2; omega⟩
 · rintro ⟨x, hx, h0⟩
   refine List.mem_of_getElem? (i := x) ?_
   rw [tabL_get _ hx]
   unfold colI
   rw [h0]; rfl
theorem len0 (n : Nat) : ((n : Int) == 0) = decide (n = 0) := by
 cases n with
 | zero => rfl
 | succ n => rw [decide_eq_false (by omega)]; exact beq_eq_false_iff_ne.2 (by omega)
theorem len200 (n : Nat) : decide (200 < (n : Int)) = decide (200 < n) := decide_eq_decide.2 (by omega)
theorem prev_mem (ls : List Ltr) (t : List UInt8) : decide (∃ l ∈ ls, decide (l.text = t) = true) = decide (t ∈ ls.map Ltr.text) := by
 apply decide_eq_decide.2
 constructor
 · rintro ⟨l, hl, h⟩
   exact List.mem_map.2 ⟨l, hl, of_decide_eq_true h⟩
 · intro h
   obtain ⟨l, hl, h2⟩ := List.mem_map.1 h
   exact ⟨l, hl, decide_eq_true h2⟩

theorem fontError1_enters : ∀ args w, (callFunc 39 args).run Tryz.prog w = .ok (.enter 39 args) w := enters Tryz.func39 (by kernel_rfl) rfl
/-- Was the text met before? -/
theorem letter_twice (L : Option Addr) (c : Nat) (ls : List Ltr) (i : Nat) (hi : i ≤ ls.length) (b : Nat) (l : Ltr) (w : World) (hL : LtrsAt w L ls) (hb : Blk w b 88 #[.string ⟨l.text.toArray⟩, .int .i64 l.W, .int .i64 l.H, .slice l.A l.m l.c]) (hn : ls.length ≤ 9223372036854775807) :
 ∀ wx, Bl w wx → Calls Tryz.prog 38 #[.slice L i c, .func (.func 39) #[] #[.pointer (some ⟨b, 0, none⟩)]] wx fun e w' => e = .returned (.bool (decide (l.text ∈ (ls.take i).map Ltr.text))) ∧ Bl wx w' := by
 intro wx hx
 have hl : (ls.take i).length = i := by simp; omega
 have hT : Tests Tryz.prog 39 #[.pointer (some ⟨b, 0, none⟩)] wx (ls.take i) (fun y => decide (y.text = l.text)) :=
  ⟨fontError1_enters, fun wy y hy _ => fontError1_any b l y wy (hb.bl (hx.trans hy))⟩
 have h := ltrContains_any L c (ls.take i) _ _ _ wx ((hL.bl hx).take i hi) hT (by omega)
 rw [hl] at h
 rw [← prev_mem]
 exact h
/-- Is a column bare? -/
theorem letter_bare (l : Ltr) (w : World) (hA : Reads w 1 l.A l.m (l.bs.map .bool)) (hp : pageErr l.W l.H l.m = 0) :
 ∀ wx, Bl w wx → Calls Tryz.prog 41 #[.agg #[.int .i64 l.W, .int .i64 l.H, .slice l.A l.m l.c]] wx fun e w' => ∃ P n d, e = .returned (.slice P n d) ∧ Bl wx w' ∧
  ∀ wy, Bl w' wy → Calls Tryz.prog 40 #[.slice P n d, .int .i64 0] wy fun e w' => e = .returned (.bool (bareB l.bs l.W.toNat l.H.toNat)) ∧ wy = w' := by
 obtain ⟨t, W, H, A, m, c, bs⟩ := l
 obtain ⟨W, H, rfl, rfl, rfl, hW, hH, -⟩ := page_nat hp
 intro wx hx
 refine (columnsOf_any W H A c bs wx (hA.bl hx) hW hH).mono ?_
 rintro e w' ⟨P, d, rfl, hP, hb⟩
 refine ⟨P, W, d, rfl, hb, fun wy hy => ?_⟩
 have h := containsI_any P W d _ 0 wy (hP.bl hy) (by omega)
 rw [bare_mem] at h
 exact h

set_option maxRecDepth 100000 in
set_option maxHeartbeats 8000000 in
theorem fontError_any (nm : List UInt8) (ht gap sp : Int) (L : Option Addr) (c : Nat) (ls : List Ltr) (w : World) (hL : LtrsAt w L ls) (hnm : nm.length ≤ 9223372036854775807) (hn : ls.length ≤ 9223372036854775807) (hc : ls.length ≤ c) :
 Calls Tryz.prog 8 #[.agg #[.string ⟨nm.toArray⟩, .int .i64 ht, .int .i64 gap, .int .i64 sp, .slice L ls.length c]] w fun e w' => e = .returned (.int .i64 (fontErr (nameB nm) ht gap sp ls)) ∧ Bl w w' := by
 let w1 := (w).alloc (.cells #[.string ⟨nm.toArray⟩, .int .i64 ht, .int .i64 gap, .int .i64 sp, .slice L ls.length c] 29)
 have w1b : Bl w w1 := (Bl.refl w).alloc _
 have w11 : Blk w1 (w.heap.size) 29 #[.string ⟨nm.toArray⟩, .int .i64 ht, .int .i64 gap, .int .i64 sp, .slice L ls.length c] := by
  have h0 := Blk.new (w) 29 #[.string ⟨nm.toArray⟩, .int .i64 ht, .int .i64 gap, .int .i64 sp, .slice L ls.length c]
  exact h0
 have HL := Lib.hid (hL.bl w1b)
 have hnm' := fun w => nameOf_any ⟨nm.toArray⟩ w (by rw [Lib.size_mk]; exact hnm)
 have HNm := Lib.hid hnm'
 have k1 := w11.all5
 clear hL hnm'
 obtain ⟨E0, hE0⟩ : ∃ E, E = fontHead (nameB nm) ht gap sp ls.length := ⟨_, rfl⟩
 have HE0 := Lib.hid hE0
 clear hE0
 go_enter Tryz.func8, Tryz.ntmps8
 go_upto_region 1 with fail
 go_cut [3] from 8 to 47 (fun s3 wc => s3 = .int .i64 E0 ∧ Bl w1 wc)
 case first =>
  cases h1 : inB ht 1 64
  · have hf : firstNZ [whenI (!nameB nm) 5, whenI true 3, whenI (decide (sp ≤ gap)) 7, whenI ((ls.length : Int) == 0) 9, whenI (decide (200 < (ls.length : Int))) 4] = E0 := by
     rw [HE0.out]; unfold fontHead rangeB; rw [h1]; rw [len0, len200]; rfl
    refine wp_region_flow [(true, 0), (true, 1), (true, 5), (true, 6), (true, 22), (true, 23), (true, 24), (true, 25), (true, 26), (true, 28), (true, 29), (true, 30), (true, 31), (true, 33), (true, 34), (true, 35), (true, 36), (false, 2), (true, 3), (false, 4), (false, 7), (true, 8), (true, 9), (true, 10), (true, 11), (false, 12), (true, 13), (true, 14), (true, 15), (true, 16), (true, 17), (false, 18), (true, 19), (true, 20), (false, 21), (false, 27), (false, 32), (false, 37), (false, 38), (false, 39), (true, 40)] (fun _ => false) (by kernel_rfl) (by kernel_rfl) (by kernel_rfl) (by kernel_rfl) ?_
    iterate 17
     apply Flow.calm2 _ _ rfl rfl
     · intro w' hb' K' hK'
       obtain ⟨hc', hf'⟩ := hb'.rule
       go_simp
       try go_ints
       exact hK'
     · intro K' hK'
       simp only [sqA]
       exact hK'
    apply Flow.move rfl
    go_wp2_with fail
    refine (HNm.out _).mono ?_
    rintro e w2 ⟨rfl, HB1⟩
    have hb2 : Bl w1 w2 := Bl.ofDrew HB1
    have k2 := (w11.bl hb2).all5
    go_wp2_with fail
    refine ⟨fun _ => (by first | exact HB1 | exact Bl.refl _), ?_⟩
    iterate 1
     apply Flow.calm2 _ _ rfl rfl
     · intro w' hb' K' hK'
       obtain ⟨hc', hf'⟩ := hb'.rule
       go_simp
       try go_ints
       exact hK'
     · intro K' hK'
       simp only [sqA]
       exact hK'
    apply Flow.move rfl
    go_wp2_with fail
    refine (when_any _ _ _).mono ?_
    rintro e w' ⟨rfl, rfl⟩
    go_wp2_with fail
    refine ⟨fun _ => (by first | exact HB2 | exact Bl.refl _), ?_⟩
    apply Flow.move rfl
    go_wp2_with fail
    refine (in_any _ _ _ _).mono ?_
    rintro e w' ⟨rfl, rfl⟩
    go_wp2_with fail
    refine ⟨fun _ => (by first | exact HB3 | exact Bl.refl _), ?_⟩
    iterate 1
     apply Flow.calm2 _ _ rfl rfl
     · intro w' hb' K' hK'
       obtain ⟨hc', hf'⟩ := hb'.rule
       go_simp
       try go_ints
       exact hK'
     · intro K' hK'
       simp only [sqA]
       exact hK'
    iterate 1
     apply Flow.mv _ rfl
     · intro K' hK'
       simp only [sqA, Act.eval, arr_getD, List.getD_cons_zero, List.getD_cons_succ]
       exact hK'
    iterate 2
     first
      | (apply Flow.pass rfl (by rfl))
      | (apply Flow.calmG _ rfl (by rfl)
         · intro w' hb'
           obtain ⟨hc', hf'⟩ := hb'.rule
           go_simp
           all_goals (try rfl))
     simp only [sqA]
     try go_ints
    -- a guarded mover
    apply Flow.move rfl
    go_wp2_with fail
    first | refine ⟨fun _ => Bl.refl _, ?_⟩ | refine ⟨Bl.refl _, ?_⟩
    first
     | (apply Flow.pass rfl (by rfl))
     | (apply Flow.calmG _ rfl (by rfl)
        · intro w' hb'
          obtain ⟨hc', hf'⟩ := hb'.rule
          go_simp
          all_goals (try rfl))
    simp only [sqA]
    try go_ints
    iterate 1
     apply Flow.calm2 _ _ rfl rfl
     · intro w' hb' K' hK'
       obtain ⟨hc', hf'⟩ := hb'.rule
       go_simp
       try go_ints
       exact hK'
     · intro K' hK'
       simp only [sqA]
       exact hK'
    iterate 1
     apply Flow.mv _ rfl
     · intro K' hK'
       simp only [sqA, Act.eval, arr_getD, List.getD_cons_zero, List.getD_cons_succ]
       exact hK'
    iterate 2
     first
      | (apply Flow.pass rfl (by rfl))
      | (apply Flow.calmG _ rfl (by rfl)
         · intro w' hb'
           obtain ⟨hc', hf'⟩ := hb'.rule
           go_simp
           all_goals (try rfl))
     simp only [sqA]
     try go_ints
    -- a guarded mover
    apply Flow.move rfl
    go_wp2_with fail
    first | refine ⟨fun _ => Bl.refl _, ?_⟩ | refine ⟨Bl.refl _, ?_⟩
    first
     | (apply Flow.pass rfl (by rfl))
     | (apply Flow.calmG _ rfl (by rfl)
        · intro w' hb'
          obtain ⟨hc', hf'⟩ := hb'.rule
          go_simp
          all_goals (try rfl))
    simp only [sqA]
    try go_ints
    iterate 1
     apply Flow.calm2 _ _ rfl rfl
     · intro w' hb' K' hK'
       obtain ⟨hc', hf'⟩ := hb'.rule
       go_simp
       try go_ints
       exact hK'
     · intro K' hK'
       simp only [sqA]
       exact hK'
    apply Flow.move rfl
    go_wp2_with fail
    refine (when_any _ _ _).mono ?_
    rintro e w' ⟨rfl, rfl⟩
    go_wp2_with fail
    refine ⟨fun _ => (by first | exact HB6 | exact Bl.refl _), ?_⟩
    apply Flow.move rfl
    go_wp2_with fail
    refine (when_any _ _ _).mono ?_
    rintro e w' ⟨rfl, rfl⟩
    go_wp2_with fail
    refine ⟨fun _ => (by first | exact HB7 | exact Bl.refl _), ?_⟩
    apply Flow.move rfl
    go_wp2_with fail
    refine (when_any _ _ _).mono ?_
    rintro e w' ⟨rfl, rfl⟩
    go_wp2_with fail
    refine ⟨fun _ => (by first | exact HB8 | exact Bl.refl _), ?_⟩
    apply Flow.move rfl
    go_wp2_with fail
    refine (when_any _ _ _).mono ?_
    rintro e w' ⟨rfl, rfl⟩
    go_wp2_with fail
    refine ⟨fun _ => (by first | exact HB9 | exact Bl.refl _), ?_⟩
    apply Flow.move rfl
    go_wp2_with fail
    first | refine ⟨fun _ => ?_, ?_⟩ | refine ⟨?_, ?_⟩
    · repeat' (first | exact Bl.refl _ | refine Bl.drewL ?_ | refine Bl.drew ?_ | refine Bl.alloc ?_ _)
    apply Flow.move rfl
    go_wp2_with fail
    refine (first5_any _ _ _ _ _ _ _ (Blk.new _ _ _)).mono ?_
    rintro e w' ⟨rfl, rfl⟩
    go_wp2_with fail
    refine ⟨fun _ => (by first | exact HB11 | exact Bl.refl _), ?_⟩
    iterate 1
     apply Flow.asg _ rfl
     · intro K' hK'
       simp only [sqA, Act.eval, arr_getD, List.getD_cons_zero, List.getD_cons_succ]
       exact hK'
    refine Flow.done ?_
    go_wp2_with fail
    go_meet
    case rel => exact ⟨rfl, hb2.alloc _⟩
  · cases h2 : inB gap 1 16
    · have hf : firstNZ [whenI (!nameB nm) 5, whenI true 3, whenI (decide (sp ≤ gap)) 7, whenI ((ls.length : Int) == 0) 9, whenI (decide (200 < (ls.length : Int))) 4] = E0 := by
       rw [HE0.out]; unfold fontHead rangeB; rw [h1, h2]; rw [len0, len200]; rfl
      refine wp_region_flow [(true, 0), (true, 1), (true, 5), (true, 6), (true, 22), (true, 23), (true, 24), (true, 25), (true, 26), (true, 28), (true, 29), (true, 30), (true, 31), (true, 33), (true, 34), (true, 35), (true, 36), (false, 2), (true, 3), (false, 4), (false, 7), (true, 8), (true, 9), (true, 10), (true, 11), (false, 12), (true, 13), (true, 14), (true, 15), (true, 16), (true, 17), (false, 18), (true, 19), (true, 20), (false, 21), (false, 27), (false, 32), (false, 37), (false, 38), (false, 39), (true, 40)] (fun _ => false) (by kernel_rfl) (by kernel_rfl) (by kernel_rfl) (by kernel_rfl) ?_
      iterate 17
       apply Flow.calm2 _ _ rfl rfl
       · intro w' hb' K' hK'
         obtain ⟨hc', hf'⟩ := hb'.rule
         go_simp
         try go_ints
         exact hK'
       · intro K' hK'
         simp only [sqA]
         exact hK'
      apply Flow.move rfl
      go_wp2_with fail
      refine (HNm.out _).mono ?_
      rintro e w2 ⟨rfl, HB1⟩
      have hb2 : Bl w1 w2 := Bl.ofDrew HB1
      have k2 := (w11.bl hb2).all5
      go_wp2_with fail
      refine ⟨fun _ => (by first | exact HB1 | exact Bl.refl _), ?_⟩
      iterate 1
       apply Flow.calm2 _ _ rfl rfl
       · intro w' hb' K' hK'
         obtain ⟨hc', hf'⟩ := hb'.rule
         go_simp
         try go_ints
         exact hK'
       · intro K' hK'
         simp only [sqA]
         exact hK'
      apply Flow.move rfl
      go_wp2_with fail
      refine (when_any _ _ _).mono ?_
      rintro e w' ⟨rfl, rfl⟩
      go_wp2_with fail
      refine ⟨fun _ => (by first | exact HB2 | exact Bl.refl _), ?_⟩
      apply Flow.move rfl
      go_wp2_with fail
      refine (in_any _ _ _ _).mono ?_
      rintro e w' ⟨rfl, rfl⟩
      go_wp2_with fail
      refine ⟨fun _ => (by first | exact HB3 | exact Bl.refl _), ?_⟩
      iterate 1
       apply Flow.calm2 _ _ rfl rfl
       · intro w' hb' K' hK'
         obtain ⟨hc', hf'⟩ := hb'.rule
         go_simp
         try go_ints
         exact hK'
       · intro K' hK'
         simp only [sqA]
         exact hK'
      iterate 1
       apply Flow.mv _ rfl
       · intro K' hK'
         simp only [sqA, Act.eval, arr_getD, List.getD_cons_zero, List.getD_cons_succ]
         exact hK'
      iterate 2
       first
        | (apply Flow.pass rfl (by rfl))
        | (apply Flow.calmG _ rfl (by rfl)
           · intro w' hb'
             obtain ⟨hc', hf'⟩ := hb'.rule
             go_simp
             all_goals (try rfl))
       simp only [sqA]
       try go_ints
      -- a guarded mover
      apply Flow.move rfl
      go_wp2_with fail
      refine (in_any _ _ _ _).mono ?_
      rintro e w' ⟨rfl, rfl⟩
      go_wp2_with fail
      refine ⟨fun _ => (by first | exact HB4 | exact Bl.refl _), ?_⟩
      first
       | (apply Flow.pass rfl (by rfl))
       | (apply Flow.calmG _ rfl (by rfl)
          · intro w' hb'
            obtain ⟨hc', hf'⟩ := hb'.rule
            go_simp
            all_goals (try rfl))
      simp only [sqA]
      try go_ints
      iterate 1
       apply Flow.calm2 _ _ rfl rfl
       · intro w' hb' K' hK'
         obtain ⟨hc', hf'⟩ := hb'.rule
         go_simp
         try go_ints
         exact hK'
       · intro K' hK'
         simp only [sqA]
         exact hK'
      iterate 1
       apply Flow.mv _ rfl
       · intro K' hK'
         simp only [sqA, Act.eval, arr_getD, List.getD_cons_zero, List.getD_cons_succ]
         exact hK'
      iterate 2
       first
        | (apply Flow.pass rfl (by rfl))
        | (apply Flow.calmG _ rfl (by rfl)
           · intro w' hb'
             obtain ⟨hc', hf'⟩ := hb'.rule
             go_simp
             all_goals (try rfl))
       simp only [sqA]
       try go_ints
      -- a guarded mover
      apply Flow.move rfl
      go_wp2_with fail
      first | refine ⟨fun _ => Bl.refl _, ?_⟩ | refine ⟨Bl.refl _, ?_⟩
      first
       | (apply Flow.pass rfl (by rfl))
       | (apply Flow.calmG _ rfl (by rfl)
          · intro w' hb'
            obtain ⟨hc', hf'⟩ := hb'.rule
            go_simp
            all_goals (try rfl))
      simp only [sqA]
      try go_ints
      iterate 1
       apply Flow.calm2 _ _ rfl rfl
       · intro w' hb' K' hK'
         obtain ⟨hc', hf'⟩ := hb'.rule
         go_simp
         try go_ints
         exact hK'
       · intro K' hK'
         simp only [sqA]
         exact hK'
      apply Flow.move rfl
      go_wp2_with fail
      refine (when_any _ _ _).mono ?_
      rintro e w' ⟨rfl, rfl⟩
      go_wp2_with fail
      refine ⟨fun _ => (by first | exact HB6 | exact Bl.refl _), ?_⟩
      apply Flow.move rfl
      go_wp2_with fail
      refine (when_any _ _ _).mono ?_
      rintro e w' ⟨rfl, rfl⟩
      go_wp2_with fail
      refine ⟨fun _ => (by first | exact HB7 | exact Bl.refl _), ?_⟩
      apply Flow.move rfl
      go_wp2_with fail
      refine (when_any _ _ _).mono ?_
      rintro e w' ⟨rfl, rfl⟩
      go_wp2_with fail
      refine ⟨fun _ => (by first | exact HB8 | exact Bl.refl _), ?_⟩
      apply Flow.move rfl
      go_wp2_with fail
      refine (when_any _ _ _).mono ?_
      rintro e w' ⟨rfl, rfl⟩
      go_wp2_with fail
      refine ⟨fun _ => (by first | exact HB9 | exact Bl.refl _), ?_⟩
      apply Flow.move rfl
      go_wp2_with fail
      first | refine ⟨fun _ => ?_, ?_⟩ | refine ⟨?_, ?_⟩
      · repeat' (first | exact Bl.refl _ | refine Bl.drewL ?_ | refine Bl.drew ?_ | refine Bl.alloc ?_ _)
      apply Flow.move rfl
      go_wp2_with fail
      refine (first5_any _ _ _ _ _ _ _ (Blk.new _ _ _)).mono ?_
      rintro e w' ⟨rfl, rfl⟩
      go_wp2_with fail
      refine ⟨fun _ => (by first | exact HB11 | exact Bl.refl _), ?_⟩
      iterate 1
       apply Flow.asg _ rfl
       · intro K' hK'
         simp only [sqA, Act.eval, arr_getD, List.getD_cons_zero, List.getD_cons_succ]
         exact hK'
      refine Flow.done ?_
      go_wp2_with fail
      go_meet
      case rel => exact ⟨rfl, hb2.alloc _⟩
    · have hf : firstNZ [whenI (!nameB nm) 5, whenI (!inB sp 1 64) 3, whenI (decide (sp ≤ gap)) 7, whenI ((ls.length : Int) == 0) 9, whenI (decide (200 < (ls.length : Int))) 4] = E0 := by
       rw [HE0.out]; unfold fontHead rangeB; rw [h1, h2]; rw [len0, len200]; rfl
      refine wp_region_flow [(true, 0), (true, 1), (true, 5), (true, 6), (true, 22), (true, 23), (true, 24), (true, 25), (true, 26), (true, 28), (true, 29), (true, 30), (true, 31), (true, 33), (true, 34), (true, 35), (true, 36), (false, 2), (true, 3), (false, 4), (false, 7), (true, 8), (true, 9), (true, 10), (true, 11), (false, 12), (true, 13), (true, 14), (true, 15), (true, 16), (true, 17), (false, 18), (true, 19), (true, 20), (false, 21), (false, 27), (false, 32), (false, 37), (false, 38), (false, 39), (true, 40)] (fun _ => false) (by kernel_rfl) (by kernel_rfl) (by kernel_rfl) (by kernel_rfl) ?_
      iterate 17
       apply Flow.calm2 _ _ rfl rfl
       · intro w' hb' K' hK'
         obtain ⟨hc', hf'⟩ := hb'.rule
         go_simp
         try go_ints
         exact hK'
       · intro K' hK'
         simp only [sqA]
         exact hK'
      apply Flow.move rfl
      go_wp2_with fail
      refine (HNm.out _).mono ?_
      rintro e w2 ⟨rfl, HB1⟩
      have hb2 : Bl w1 w2 := Bl.ofDrew HB1
      have k2 := (w11.bl hb2).all5
      go_wp2_with fail
      refine ⟨fun _ => (by first | exact HB1 | exact Bl.refl _), ?_⟩
      iterate 1
       apply Flow.calm2 _ _ rfl rfl
       · intro w' hb' K' hK'
         obtain ⟨hc', hf'⟩ := hb'.rule
         go_simp
         try go_ints
         exact hK'
       · intro K' hK'
         simp only [sqA]
         exact hK'
      apply Flow.move rfl
      go_wp2_with fail
      refine (when_any _ _ _).mono ?_
      rintro e w' ⟨rfl, rfl⟩
      go_wp2_with fail
      refine ⟨fun _ => (by first | exact HB2 | exact Bl.refl _), ?_⟩
      apply Flow.move rfl
      go_wp2_with fail
      refine (in_any _ _ _ _).mono ?_
      rintro e w' ⟨rfl, rfl⟩
      go_wp2_with fail
      refine ⟨fun _ => (by first | exact HB3 | exact Bl.refl _), ?_⟩
      iterate 1
       apply Flow.calm2 _ _ rfl rfl
       · intro w' hb' K' hK'
         obtain ⟨hc', hf'⟩ := hb'.rule
         go_simp
         try go_ints
         exact hK'
       · intro K' hK'
         simp only [sqA]
         exact hK'
      iterate 1
       apply Flow.mv _ rfl
       · intro K' hK'
         simp only [sqA, Act.eval, arr_getD, List.getD_cons_zero, List.getD_cons_succ]
         exact hK'
      iterate 2
       first
        | (apply Flow.pass rfl (by rfl))
        | (apply Flow.calmG _ rfl (by rfl)
           · intro w' hb'
             obtain ⟨hc', hf'⟩ := hb'.rule
             go_simp
             all_goals (try rfl))
       simp only [sqA]
       try go_ints
      -- a guarded mover
      apply Flow.move rfl
      go_wp2_with fail
      refine (in_any _ _ _ _).mono ?_
      rintro e w' ⟨rfl, rfl⟩
      go_wp2_with fail
      refine ⟨fun _ => (by first | exact HB4 | exact Bl.refl _), ?_⟩
      first
       | (apply Flow.pass rfl (by rfl))
       | (apply Flow.calmG _ rfl (by rfl)
          · intro w' hb'
            obtain ⟨hc', hf'⟩ := hb'.rule
            go_simp
            all_goals (try rfl))
      simp only [sqA]
      try go_ints
      iterate 1
       apply Flow.calm2 _ _ rfl rfl
       · intro w' hb' K' hK'
         obtain ⟨hc', hf'⟩ := hb'.rule
         go_simp
         try go_ints
         exact hK'
       · intro K' hK'
         simp only [sqA]
         exact hK'
      iterate 1
       apply Flow.mv _ rfl
       · intro K' hK'
         simp only [sqA, Act.eval, arr_getD, List.getD_cons_zero, List.getD_cons_succ]
         exact hK'
      iterate 2
       first
        | (apply Flow.pass rfl (by rfl))
        | (apply Flow.calmG _ rfl (by rfl)
           · intro w' hb'
             obtain ⟨hc', hf'⟩ := hb'.rule
             go_simp
             all_goals (try rfl))
       simp only [sqA]
       try go_ints
      -- a guarded mover
      apply Flow.move rfl
      go_wp2_with fail
      refine (in_any _ _ _ _).mono ?_
      rintro e w' ⟨rfl, rfl⟩
      go_wp2_with fail
      refine ⟨fun _ => (by first | exact HB5 | exact Bl.refl _), ?_⟩
      first
       | (apply Flow.pass rfl (by rfl))
       | (apply Flow.calmG _ rfl (by rfl)
          · intro w' hb'
            obtain ⟨hc', hf'⟩ := hb'.rule
            go_simp
            all_goals (try rfl))
      simp only [sqA]
      try go_ints
      iterate 1
       apply Flow.calm2 _ _ rfl rfl
       · intro w' hb' K' hK'
         obtain ⟨hc', hf'⟩ := hb'.rule
         go_simp
         try go_ints
         exact hK'
       · intro K' hK'
         simp only [sqA]
         exact hK'
      apply Flow.move rfl
      go_wp2_with fail
      refine (when_any _ _ _).mono ?_
      rintro e w' ⟨rfl, rfl⟩
      go_wp2_with fail
      refine ⟨fun _ => (by first | exact HB6 | exact Bl.refl _), ?_⟩
      apply Flow.move rfl
      go_wp2_with fail
      refine (when_any _ _ _).mono ?_
      rintro e w' ⟨rfl, rfl⟩
      go_wp2_with fail
      refine ⟨fun _ => (by first | exact HB7 | exact Bl.refl _), ?_⟩
      apply Flow.move rfl
      go_wp2_with fail
      refine (when_any _ _ _).mono ?_
      rintro e w' ⟨rfl, rfl⟩
      go_wp2_with fail
      refine ⟨fun _ => (by first | exact HB8 | exact Bl.refl _), ?_⟩
      apply Flow.move rfl
      go_wp2_with fail
      refine (when_any _ _ _).mono ?_
      rintro e w' ⟨rfl, rfl⟩
      go_wp2_with fail
      refine ⟨fun _ => (by first | exact HB9 | exact Bl.refl _), ?_⟩
      apply Flow.move rfl
      go_wp2_with fail
      first | refine ⟨fun _ => ?_, ?_⟩ | refine ⟨?_, ?_⟩
      · repeat' (first | exact Bl.refl _ | refine Bl.drewL ?_ | refine Bl.drew ?_ | refine Bl.alloc ?_ _)
      apply Flow.move rfl
      go_wp2_with fail
      refine (first5_any _ _ _ _ _ _ _ (Blk.new _ _ _)).mono ?_
      rintro e w' ⟨rfl, rfl⟩
      go_wp2_with fail
      refine ⟨fun _ => (by first | exact HB11 | exact Bl.refl _), ?_⟩
      iterate 1
       apply Flow.asg _ rfl
       · intro K' hK'
         simp only [sqA, Act.eval, arr_getD, List.getD_cons_zero, List.getD_cons_succ]
         exact hK'
      refine Flow.done ?_
      go_wp2_with fail
      go_meet
      case rel => exact ⟨rfl, hb2.alloc _⟩
 case rest =>
  rename World => wc
  obtain ⟨rfl, hbc⟩ := hcut
  have k5 := (w11.bl hbc).all5
  clear k1
  by_cases hz : E0 = 0
  case neg =>
   have hq : (E0 == 0) = false := by simp [hz]
   have HX := Lib.hid (show fontErr (nameB nm) ht gap sp ls = E0 by unfold fontErr; rw [← HE0.out, if_neg hz])
   clear hz
   go_wp2_with fail
   go_ret
   exact ⟨by rw [HX.out]; rfl, w1b.trans hbc⟩
  case pos =>
   subst hz
   have HX := Lib.hid (show fontErr (nameB nm) ht gap sp ls = ltrsErr ht [] ls by unfold fontErr; rw [← HE0.out, if_pos rfl])
   clear HE0
   go_wp2_with fail
   go_loopw [54] (fun u wr => ∃ i : Nat, i ≤ ls.length ∧ u = .int .i64 i ∧ Bl w1 wr ∧ ltrsErr ht ((ls.take i).map Ltr.text) (ls.drop i) = ltrsErr ht [] ls) (fun u _ => ls.length - (RowKit.intOf u).toNat)
   case atStart => exact ⟨0, Nat.zero_le _, rfl, hbc, by simp⟩
   case round =>
    obtain ⟨i, hi, rfl, hbr, hrs⟩ := hrel
    clear k5
    have HRs := Lib.hid hrs
    have k5 := (w11.bl hbr).all5
    clear hrs
    by_cases hlt : i < ls.length
    · have hg : ls[i]? = some ls[i] := List.getElem?_eq_getElem hlt
      obtain ⟨l, hl⟩ : ∃ l, l = ls[i] := ⟨_, rfl⟩
      rw [← hl] at hg
      obtain ⟨ad, rfl, k1, k2, k3, k4⟩ := (HL.out.bl hbr).at_ hg
      have HA := Lib.hid (((HL.out.bl hbr).2 l (List.mem_of_getElem? hg)))
      have HG := Lib.hid hg
      clear hg hl
      go_upto_region 7 with fail
      obtain ⟨w5, hw5⟩ : ∃ x, x = wr.alloc (.cells #[.string ⟨l.text.toArray⟩, .int .i64 l.W, .int .i64 l.H, .slice l.A l.m l.c] 88) := ⟨_, rfl⟩
      have b5 : Blk w5 wr.heap.size 88 #[.string ⟨l.text.toArray⟩, .int .i64 l.W, .int .i64 l.H, .slice l.A l.m l.c] := by rw [hw5]; exact Blk.new _ _ _
      have hb5 : Bl w1 w5 := by rw [hw5]; exact hbr.alloc _
      rw [← hw5]
      have k5 := (w11.bl hb5).all5
      have k6 := b5.all4
      have htx := HA.out.2
      have hcon := letter_twice (some ad) c ls i (by omega) wr.heap.size l w5 (HL.out.bl hb5) b5 hn
      obtain ⟨pv, hpv⟩ : ∃ x, x = (ls.take i).map Ltr.text := ⟨_, rfl⟩
      have hrs := HRs.out
      have hfr := ltrsErr_from (ht := ht) HG.out
      rw [← hpv] at hcon hrs hfr
      have HRs := Lib.hid hrs; have HF := Lib.hid hfr
      clear hrs hfr hpv
      obtain ⟨E1, hE1⟩ : ∃ E, E = ltrE1 pv l := ⟨_, rfl⟩
      have hf1 : firstNZ [whenI (!textB l.text) 2, whenI (decide (l.text ∈ pv)) 6, pageErr l.W l.H l.m] = E1 := by rw [hE1]; rfl
      have HE1 := Lib.hid hE1; have Hcon := Lib.hid hcon; have B5 := Lib.hid b5; have Hw5 := Lib.hid hb5
      have hic : i ≤ c := by omega
      clear hw5 hE1 k1 k2 k3 k4 hcon b5 hb5
      refine wp_region_flow [(true, 0), (true, 1), (true, 5), (true, 6), (true, 7), (true, 8), (true, 9), (true, 12), (true, 13), (false, 2), (true, 3), (false, 4), (false, 10), (false, 11), (false, 14), (false, 15), (false, 16), (true, 17)] (fun _ => false) (by kernel_rfl) (by kernel_rfl) (by kernel_rfl) (by kernel_rfl) ?_
      iterate 4
       apply Flow.calm2 _ _ rfl rfl
       · intro w' hb' K' hK'
         obtain ⟨hc', hf'⟩ := hb'.rule
         go_simp
         try go_ints
         exact hK'
       · intro K' hK'
         simp only [sqA]
         exact hK'
      iterate 1
       apply Flow.mv _ rfl
       · intro K' hK'
         simp only [sqA, Act.eval, arr_getD, List.getD_cons_zero, List.getD_cons_succ]
         exact hK'
      iterate 4
       apply Flow.calm2 _ _ rfl rfl
       · intro w' hb' K' hK'
         obtain ⟨hc', hf'⟩ := hb'.rule
         go_simp
         try go_ints
         exact hK'
       · intro K' hK'
         simp only [sqA]
         exact hK'
      apply Flow.move rfl
      go_wp2_with fail
      refine (letterText_any _ _ htx).mono ?_
      rintro e w' ⟨rfl, rfl⟩
      go_wp2_with fail
      refine ⟨fun _ => (by first | exact HB1 | exact Bl.refl _), ?_⟩
      iterate 1
       apply Flow.calm2 _ _ rfl rfl
       · intro w' hb' K' hK'
         obtain ⟨hc', hf'⟩ := hb'.rule
         go_simp
         try go_ints
         exact hK'
       · intro K' hK'
         simp only [sqA]
         exact hK'
      apply Flow.move rfl
      go_wp2_with fail
      refine (when_any _ _ _).mono ?_
      rintro e w' ⟨rfl, rfl⟩
      go_wp2_with fail
      refine ⟨fun _ => (by first | exact HB2 | exact Bl.refl _), ?_⟩
      apply Flow.move rfl
      go_wp2_with fail
      refine (Hcon.out _ ((Bl.refl _).drew)).mono ?_
      rintro e w6 ⟨rfl, HB3⟩
      go_wp2_with fail
      refine ⟨fun _ => (by first | exact HB3 | exact Bl.refl _), ?_⟩
      apply Flow.move rfl
      go_wp2_with fail
      refine (when_any _ _ _).mono ?_
      rintro e w' ⟨rfl, rfl⟩
      go_wp2_with fail
      refine ⟨fun _ => (by first | exact HB4 | exact Bl.refl _), ?_⟩
      apply Flow.move rfl
      go_wp2_with fail
      refine (bitsError_any _ _ _ _ _ _).mono ?_
      rintro e w7 ⟨rfl, HB5⟩
      go_wp2_with fail
      refine ⟨fun _ => (by first | exact HB5 | exact Bl.refl _), ?_⟩
      apply Flow.move rfl
      go_wp2_with fail
      first | refine ⟨fun _ => ?_, ?_⟩ | refine ⟨?_, ?_⟩
      · repeat' (first | exact Bl.refl _ | refine Bl.drewL ?_ | refine Bl.drew ?_ | refine Bl.alloc ?_ _)
      apply Flow.move rfl
      go_wp2_with fail
      refine (first3_any _ _ _ _ _ (Blk.new _ _ _)).mono ?_
      rintro e w' ⟨rfl, rfl⟩
      go_wp2_with fail
      refine ⟨fun _ => (by first | exact HB7 | exact Bl.refl _), ?_⟩
      iterate 1
       apply Flow.asg _ rfl
       · intro K' hK'
         simp only [sqA, Act.eval, arr_getD, List.getD_cons_zero, List.getD_cons_succ]
         exact hK'
      refine Flow.done ?_
      have hb8 : Bl w5 (w7.alloc (.cells #[.int .i64 (whenI (!textB l.text) 2), .int .i64 (whenI (decide (l.text ∈ pv)) 6), .int .i64 (pageErr l.W l.H l.m)] 31)) := ((Bl.ofDrew HB3).trans HB5).alloc _
      clear HB3 HB5
      obtain ⟨w8, hw8⟩ : ∃ x, x = w7.alloc (.cells #[.int .i64 (whenI (!textB l.text) 2), .int .i64 (whenI (decide (l.text ∈ pv)) 6), .int .i64 (pageErr l.W l.H l.m)] 31) := ⟨_, rfl⟩
      rw [← hw8] at hb8 ⊢
      have HB8 := Lib.hid (Hw5.out.trans hb8)
      have k5 := (w11.bl HB8.out).all5
      have b8 := B5.out.bl hb8
      have k6 := b8.all4
      clear hw8 hb8 hf1
      by_cases hz : E1 = 0
      case neg =>
       have hq : (E1 == 0) = false := by simp [hz]
       have HY := Lib.hid (show ltrsErr ht [] ls = E1 by rw [← HRs.out, HF.out, ltrErr_parts, ← HE1.out, if_neg hz, if_neg hz])
       clear hz
       go_wp2_with fail
       go_ret
       exact ⟨by rw [HX.out, HY.out]; rfl, w1b.trans HB8.out⟩
      case pos =>
       subst hz
       have HP := Lib.hid (ltrE1_zero HE1.out.symm)
       have hbare := letter_bare l w8 ((HL.out.bl HB8.out).2 l (List.mem_of_getElem? HG.out)).1 HP.out
       have Hbare := Lib.hid hbare
       obtain ⟨E2, hE2⟩ : ∃ E, E = ltrE2 ht l := ⟨_, rfl⟩
       have hf2 : firstNZ [whenI (l.H != ht) 11, whenI (decide (64 < l.W)) 4, whenI (bareB l.bs l.W.toNat l.H.toNat) 2] = E2 := by rw [hE2]; rfl
       have HE2 := Lib.hid hE2
       clear hE2 hbare
       go_upto_region 10 with fail
       refine wp_region_flow [(true, 0), (true, 1), (true, 2), (true, 3), (true, 4), (true, 5), (true, 7), (true, 8), (true, 9), (true, 10), (true, 12), (true, 13), (false, 6), (false, 11), (false, 14), (false, 15), (false, 16), (false, 17), (false, 18), (true, 19)] (fun _ => false) (by kernel_rfl) (by kernel_rfl) (by kernel_rfl) (by kernel_rfl) ?_
       iterate 12
        apply Flow.calm2 _ _ rfl rfl
        · intro w' hb' K' hK'
          obtain ⟨hc', hf'⟩ := hb'.rule
          go_simp
          try go_ints
          exact hK'
        · intro K' hK'
          simp only [sqA]
          exact hK'
       apply Flow.move rfl
       go_wp2_with fail
       refine (when_any _ _ _).mono ?_
       rintro e w' ⟨rfl, rfl⟩
       go_wp2_with fail
       refine ⟨fun _ => (by first | exact HB1 | exact Bl.refl _), ?_⟩
       apply Flow.move rfl
       go_wp2_with fail
       refine (when_any _ _ _).mono ?_
       rintro e w' ⟨rfl, rfl⟩
       go_wp2_with fail
       refine ⟨fun _ => (by first | exact HB2 | exact Bl.refl _), ?_⟩
       apply Flow.move rfl
       go_wp2_with fail
       refine (Hbare.out _ ((Bl.refl _).drew)).mono ?_
       rintro e w9 ⟨P, n, d, rfl, HB3, hcon⟩
       go_wp2_with fail
       refine ⟨fun _ => (by first | exact HB3 | exact Bl.refl _), ?_⟩
       apply Flow.move rfl
       go_wp2_with fail
       refine (hcon _ (Bl.refl _)).mono ?_
       rintro e w' ⟨rfl, rfl⟩
       go_wp2_with fail
       refine ⟨fun _ => (by first | exact HB4 | exact Bl.refl _), ?_⟩
       apply Flow.move rfl
       go_wp2_with fail
       refine (when_any _ _ _).mono ?_
       rintro e w' ⟨rfl, rfl⟩
       go_wp2_with fail
       refine ⟨fun _ => (by first | exact HB5 | exact Bl.refl _), ?_⟩
       apply Flow.move rfl
       go_wp2_with fail
       first | refine ⟨fun _ => ?_, ?_⟩ | refine ⟨?_, ?_⟩
       · repeat' (first | exact Bl.refl _ | refine Bl.drewL ?_ | refine Bl.drew ?_ | refine Bl.alloc ?_ _)
       apply Flow.move rfl
       go_wp2_with fail
       refine (first3_any _ _ _ _ _ (Blk.new _ _ _)).mono ?_
       rintro e w' ⟨rfl, rfl⟩
       go_wp2_with fail
       refine ⟨fun _ => (by first | exact HB7 | exact Bl.refl _), ?_⟩
       iterate 1
        apply Flow.asg _ rfl
        · intro K' hK'
          simp only [sqA, Act.eval, arr_getD, List.getD_cons_zero, List.getD_cons_succ]
          exact hK'
       refine Flow.done ?_
       have hb10 : Bl w8 (w9.alloc (.cells #[.int .i64 (whenI (l.H != ht) 11), .int .i64 (whenI (decide (64 < l.W)) 4), .int .i64 (whenI (bareB l.bs l.W.toNat l.H.toNat) 2)] 31)) := (Bl.ofDrew HB3).alloc _
       have HB10 := Lib.hid (HB8.out.trans hb10)
       clear hf2 hb10 HB3 hcon k5 k6
       by_cases hz : E2 = 0
       case neg =>
        have hq : (E2 == 0) = false := by simp [hz]
        have HY := Lib.hid (show ltrsErr ht [] ls = E2 by rw [← HRs.out, HF.out, ltrErr_parts, ← HE1.out, if_pos rfl, ← HE2.out, if_neg hz])
        clear hz
        go_wp2_with fail
        go_ret
        exact ⟨by rw [HX.out, HY.out]; rfl, w1b.trans HB10.out⟩
       case pos =>
        subst hz
        have HY := Lib.hid (show ltrsErr ht ((ls.take (i + 1)).map Ltr.text) (ls.drop (i + 1)) = ltrsErr ht [] ls by rw [← HRs.out, HF.out, ltrErr_parts, ← HE1.out, if_pos rfl, ← HE2.out, if_pos rfl])
        go_wp2_with fail
        exact ⟨⟨i + 1, hlt, by go_num, HB10.out, HY.out⟩, by simp [RowKit.intOf]; omega⟩
    · obtain rfl : i = ls.length := by omega
      have HY := Lib.hid (show ltrsErr ht [] ls = 0 by rw [← HRs.out, List.drop_length]; rfl)
      go_wp2_with fail
      go_ret
      exact ⟨by rw [HX.out, HY.out]; rfl, w1b.trans hbr⟩

end Go.Proofs.YthobmednnocklaaGreatDoor


/-! glyph.see. -/
namespace Go.Proofs.YthobmednnocklaaGreatDoor
open Go.RowKit

theorem Blk.all7 {w : World} {g : Nat} {t : TypeId} {a b c d e f h : Value} (k : Blk w g t #[a, b, c, d, e, f, h]) : w.cell? ⟨g, 0, none⟩ = some a ∧ w.cell? ⟨g, 1, none⟩ = some b ∧ w.cell? ⟨g, 2, none⟩ = some c ∧ w.cell? ⟨g, 3, none⟩ = some d ∧ w.cell? ⟨g, 4, none⟩ = some e ∧ w.cell? ⟨g, 5, none⟩ = some f ∧ w.cell? ⟨g, 6, none⟩ = some h ∧ ∀ i, w.frozen? ⟨g, i, none⟩ = false :=
 ⟨k.cell 0, k.cell 1, k.cell 2, k.cell 3, k.cell 4, k.cell 5, k.cell 6, k.frozen⟩
set_option maxRecDepth 100000 in
set_option maxHeartbeats 8000000 in
theorem see_any (nm : List UInt8) (ht gap sp : Int) (L : Option Addr) (c : Nat) (ls : List Ltr) (W H X bw : Nat) (A : Option Addr) (ac : Nat) (bs : List Bool) (most : Int) (w : World) (hL : LtrsAt w L ls) (hA : Reads w 1 A (W * H) (bs.map .bool))
 (hW : W ≤ 4000) (hH : 1 ≤ H ∧ H ≤ 4000) (hWH : W * H ≤ 1048576) (hX : X + bw ≤ W) (hbw : 1 ≤ bw) (hls : ∀ l ∈ ls, pageErr l.W l.H l.m = 0 ∧ l.W ≤ 64) (hn : ls.length ≤ 200) (hm : 0 ≤ most ∧ most ≤ 1000) (hht : 1 ≤ ht ∧ ht ≤ 64) :
 Calls Tryz.prog 95 #[.agg #[.string ⟨nm.toArray⟩, .int .i64 ht, .int .i64 gap, .int .i64 sp, .slice L ls.length c], .agg #[.int .i64 W, .int .i64 H, .slice A (W * H) ac], .agg #[.int .i64 X, .int .i64 0, .int .i64 bw, .int .i64 H], .int .i64 most] w fun e w' =>
  e = .returned (.agg (seenCells (bestOf (grid bw H (cutF bs W X 0)) bw H [] ls) X bw H most ht).toArray) ∧ Bl w w' := by
 let w4 := ((((w).alloc (.cells #[.string ⟨nm.toArray⟩, .int .i64 ht, .int .i64 gap, .int .i64 sp, .slice L ls.length c] 29)).alloc (.cells #[.int .i64 W, .int .i64 H, .slice A (W * H) ac] 24)).alloc (.cells #[.int .i64 X, .int .i64 0, .int .i64 bw, .int .i64 H] 26)).alloc (.cells #[.string ⟨#[]⟩, .int .i64 0, .int .i64 0, .int .i64 0, .int .i64 0, .int .i64 0, .int .i64 0] 45)
 have w4b : Bl w w4 := ((((Bl.refl w).alloc _).alloc _).alloc _).alloc _
 have w41 : Blk w4 (w.heap.size) 29 #[.string ⟨nm.toArray⟩, .int .i64 ht, .int .i64 gap, .int .i64 sp, .slice L ls.length c] := by
  have h0 := Blk.new (w) 29 #[.string ⟨nm.toArray⟩, .int .i64 ht, .int .i64 gap, .int .i64 sp, .slice L ls.length c]
  exact (((h0.alloc _).alloc _).alloc _)
 have w42 : Blk w4 (w.heap.size + 1) 24 #[.int .i64 W, .int .i64 H, .slice A (W * H) ac] := by
  have h0 := Blk.new ((w).alloc (.cells #[.string ⟨nm.toArray⟩, .int .i64 ht, .int .i64 gap, .int .i64 sp, .slice L ls.length c] 29)) 24 #[.int .i64 W, .int .i64 H, .slice A (W * H) ac]
  simp only [World.size_alloc] at h0
  exact ((h0.alloc _).alloc _)
 have w43 : Blk w4 (w.heap.size + 1 + 1) 26 #[.int .i64 X, .int .i64 0, .int .i64 bw, .int .i64 H] := by
  have h0 := Blk.new (((w).alloc (.cells #[.string ⟨nm.toArray⟩, .int .i64 ht, .int .i64 gap, .int .i64 sp, .slice L ls.length c] 29)).alloc (.cells #[.int .i64 W, .int .i64 H, .slice A (W * H) ac] 24)) 26 #[.int .i64 X, .int .i64 0, .int .i64 bw, .int .i64 H]
  simp only [World.size_alloc] at h0
  exact (h0.alloc _)
 have w44 : Blk w4 (w.heap.size + 1 + 1 + 1) 45 #[.string ⟨#[]⟩, .int .i64 0, .int .i64 0, .int .i64 0, .int .i64 0, .int .i64 0, .int .i64 0] := by
  have h0 := Blk.new ((((w).alloc (.cells #[.string ⟨nm.toArray⟩, .int .i64 ht, .int .i64 gap, .int .i64 sp, .slice L ls.length c] 29)).alloc (.cells #[.int .i64 W, .int .i64 H, .slice A (W * H) ac] 24)).alloc (.cells #[.int .i64 X, .int .i64 0, .int .i64 bw, .int .i64 H] 26)) 45 #[.string ⟨#[]⟩, .int .i64 0, .int .i64 0, .int .i64 0, .int .i64 0, .int .i64 0, .int .i64 0]
  simp only [World.size_alloc] at h0
  exact h0
 have lw4 : w4.heap.size = w.heap.size + 4 := by simp [w4]
 have HL := Lib.hid (hL.bl w4b)
 have hpz : pageErr (W : Int) (H : Int) (W * H) = 0 := page_ok (by omega) hW hH.1 hH.2 hWH
 have hce : cutErr (W : Int) (H : Int) (W * H) (X : Int) 0 (bw : Int) (H : Int) = 0 := by
  unfold cutErr
  rw [hpz]
  have hin : inPageB (X : Int) 0 (bw : Int) (H : Int) (W : Int) (H : Int) = true := decide_eq_true (by omega)
  rw [hin]
  rfl
 have hct := cut_any (W : Int) (H : Int) A (W * H) ac bs (X : Int) 0 (bw : Int) (H : Int) w4 (hA.bl w4b)
 rw [hce] at hct
 simp only [Int.toNat_natCast] at hct
 have Hct := Lib.hid hct; have HLs := Lib.hid hls
 have k2 := w42.all3
 have k3 := w43.all4
 clear hct hce hpz hA hL hls
 go_enter Tryz.func95, Tryz.ntmps95
 go_wp2_with fail
 refine Hct.out.mono ?_
 rintro e w6 ⟨ca, cb, cR, cm, cd, rfl, hres, hb6⟩
 clear_value w4
 obtain ⟨R', rc', e', hR, -⟩ := hres.1 rfl
 injection e' with e'
 simp only [Array.mk.injEq, List.cons.injEq, Value.int.injEq, Value.slice.injEq, true_and, and_true] at e'
 obtain ⟨rfl, rfl, rfl, rfl, rfl⟩ := e'
 obtain ⟨cs, hcs⟩ : ∃ cs, cs = grid bw H (cutF bs W X 0) := ⟨_, rfl⟩
 have hR0 : Reads w6 1 cR (bw * H) (cs.map .bool) := by rw [hcs]; exact hR
 obtain ⟨w7, hw7⟩ : ∃ x, x = w6.alloc (.cells #[.int .i64 bw, .int .i64 H, .slice cR (bw * H) cd] 24) := ⟨_, rfl⟩
 obtain ⟨q, hq⟩ : ∃ x, x = w6.heap.size := ⟨_, rfl⟩
 have bQ : Blk w7 q 24 #[.int .i64 bw, .int .i64 H, .slice cR (bw * H) cd] := by rw [hw7, hq]; exact Blk.new _ _ _
 have hb67 : Bl w6 w7 := by rw [hw7]; exact (Bl.refl _).alloc _
 have hb7 := hb6.trans hb67
 have HR := Lib.hid (hR0.bl hb67); have HCs := Lib.hid hcs
 clear hres hR hR0 hcs k2 k3 Hct
 go_upto_region 2 with fail
 rw [← hw7, ← hq]
 clear hw7 hq
 have k3 := (w43.bl hb7).all4
 obtain ⟨w8, hw8⟩ : ∃ x, x = w7.alloc (.cells #[.string ⟨#[]⟩, .int .i64 X, .int .i64 0, .int .i64 bw, .int .i64 H, .int .i64 (-1), .int .i64 (-1)] 45) := ⟨_, rfl⟩
 obtain ⟨o, ho⟩ : ∃ x, x = w7.heap.size := ⟨_, rfl⟩
 have bO : Blk w8 o 45 #[.string ⟨#[]⟩, .int .i64 X, .int .i64 0, .int .i64 bw, .int .i64 H, .int .i64 (-1), .int .i64 (-1)] := by rw [hw8, ho]; exact Blk.new _ _ _
 have hb78 : Bl w7 w8 := by rw [hw8]; exact (Bl.refl _).alloc _
 have ho7 : w7.heap.size ≤ o := by omega
 have HO := Lib.hid ho
 clear ho
 go_upto_region 3 with fail
 rw [← hw8, ← HO.out]
 clear hw8 k3
 have k1 := (w41.bl (hb7.trans hb78)).all5
 go_wp2_with fail
 go_loopw [27] (fun u wr => ∃ (i : Nat) (t : List UInt8) (d1 d2 : Int), i ≤ ls.length ∧ u = .int .i64 i ∧ Bl w7 wr ∧ bestOf cs bw H [] (ls.take i) = (t, d1, d2) ∧ Blk wr o 45 #[.string ⟨t.toArray⟩, .int .i64 X, .int .i64 0, .int .i64 bw, .int .i64 H, .int .i64 d1, .int .i64 d2]) (fun u _ => ls.length - (RowKit.intOf u).toNat)
 case atStart => exact ⟨0, [], -1, -1, Nat.zero_le _, rfl, hb78, rfl, bO⟩
 case round =>
  clear k1 bO hb78
  obtain ⟨i, t, d1, d2, hi, rfl, hbr, hbest, hbo⟩ := hrel
  have hinv := best_inv (cs := cs) (W := bw) (H := H) [] (by omega) hH.2 (ls := ls.take i) (fun l hl => by
   obtain ⟨h1, h2⟩ := HLs.out l (List.mem_of_mem_take hl)
   obtain ⟨W', H', e1, e2, -, -, h4, -⟩ := page_nat h1
   exact ⟨h2, by omega⟩)
  rw [hbest] at hinv
  have hinv2 : d1 = -1 ∧ d2 = -1 ∨ (0 ≤ d1 ∧ d1 ≤ 32000000 ∧ -1 ≤ d2 ∧ d2 ≤ 32000000) := hinv
  have HBe := Lib.hid hbest
  clear hbest hinv
  have k3 := (w43.bl (hb7.trans hbr)).all4
  have k9 := (bQ.bl hbr).all3
  by_cases hlt : i < ls.length
  · have hg : ls[i]? = some ls[i] := List.getElem?_eq_getElem hlt
    obtain ⟨l, hl⟩ : ∃ l, l = ls[i] := ⟨_, rfl⟩
    rw [← hl] at hg
    have hbs := bestOf_succ (cs := cs) (W := bw) (H := H) (t0 := []) hg
    rw [HBe.out] at hbs
    obtain ⟨hlz, hl64⟩ := HLs.out l (List.mem_of_getElem? hg)
    obtain ⟨adl, rfl, j1, j2, j3, j4⟩ := (HL.out.bl (hb7.trans hbr)).at_ hg
    have hlA := (HL.out.2 l (List.mem_of_getElem? hg)).1
    obtain ⟨lW, lH, elW, elH, elm, hlW, hlH, -⟩ := page_nat hlz
    rw [elm] at hlA j4
    rw [elW] at j2 hl64
    rw [elH] at j3
    have hstep : bestStep cs bw H (t, d1, d2) l = if (lW : Int) - (bw : Int) < -2 ∨ 2 < (lW : Int) - (bw : Int) then (t, d1, d2) else if d1 < 0 ∨ farL cs bw H l < d1 then (l.text, farL cs bw H l, d1) else if d2 < 0 ∨ farL cs bw H l < d2 then (t, d1, farL cs bw H l) else (t, d1, d2) := by
     unfold bestStep
     rw [elW]
    rw [hstep] at hbs
    have hfar : farL cs bw H l = farN (inkF cs bw H) (inkF l.bs lW lH) bw H lW lH 1 := by unfold farL; rw [elW, elH]; rfl
    have hfr := far_range (W := bw) (H := H) (W' := lW) (H' := lH) (r := 1) (cs := cs) (bs := l.bs) (by omega) hH.2 hlW hlH
    rw [← hfar] at hfr
    have hd := fun wx (hx : Bl w7 wx) => distance_any bw H lW lH 1 cR l.A cd l.c cs l.bs wx (HR.out.bl hx) (hlA.bl (hb7.trans hx)) (by omega) hH.2 hlW hlH (by omega)
    rw [← hfar] at hd
    obtain ⟨d, hdd⟩ : ∃ d, d = farL cs bw H l := ⟨_, rfl⟩
    rw [← hdd] at hbs hd hfr
    have hd' : ∀ wx, Bl w7 wx → Calls Tryz.prog 175 #[.agg #[.int .i64 bw, .int .i64 H, .slice cR (bw * H) cd], .agg #[.int .i64 lW, .int .i64 lH, .slice l.A (lW * lH) l.c], .int .i64 1] wx fun e w' => e = .returned (.int .i64 d) ∧ Bl wx w' := hd
    have Hd := Lib.hid hd'; have HBs := Lib.hid hbs
    clear hd hd' hbs hstep hfar hdd hlz hlA elW elH elm hg hl
    go_upto_region 6 with fail
    obtain ⟨w9, hw9⟩ : ∃ x, x = wr.alloc (.cells #[.string ⟨l.text.toArray⟩, .int .i64 lW, .int .i64 lH, .slice l.A (lW * lH) l.c] 88) := ⟨_, rfl⟩
    obtain ⟨p, hp⟩ : ∃ x, x = wr.heap.size := ⟨_, rfl⟩
    have b9 : Blk w9 p 88 #[.string ⟨l.text.toArray⟩, .int .i64 lW, .int .i64 lH, .slice l.A (lW * lH) l.c] := by rw [hw9, hp]; exact Blk.new _ _ _
    have hbr9 : Bl wr w9 := by rw [hw9]; exact (Bl.refl _).alloc _
    have hop : ¬ (o = p) := by have := hbo.lt; omega
    rw [← hw9, ← hp]
    clear hw9 hp j1 j2 j3 j4 k3 k9
    have hb9 := hbr.trans hbr9
    have k3 := (w43.bl (hb7.trans hb9)).all4
    have k9 := (bQ.bl hb9).all3
    have kp := b9.all4
    have hbo9 := hbo.bl hbr9
    by_cases c1 : (lW : Int) - (bw : Int) < -2
    · have HN := Lib.hid (HBs.out.trans (if_pos (.inl c1)))
      go_wp2_with fail
      exact ⟨⟨i + 1, t, d1, d2, hlt, by go_num, hb9, HN.out, hbo9⟩, by simp [RowKit.intOf] <;> omega⟩
    · by_cases c2 : 2 < (lW : Int) - (bw : Int)
      · have HN := Lib.hid (HBs.out.trans (if_pos (.inr c2)))
        go_wp2_with fail
        exact ⟨⟨i + 1, t, d1, d2, hlt, by go_num, hb9, HN.out, hbo9⟩, by simp [RowKit.intOf] <;> omega⟩
      · have HB2 := Lib.hid (HBs.out.trans (if_neg (by omega)))
        go_wp2_with fail
        refine (Hd.out _ hb9).mono ?_
        rintro e w10 ⟨rfl, hb910⟩
        have hb10 := hb9.trans hb910
        have hbo10 := hbo9.bl hb910
        have ko := hbo10.all7
        have kp := b9.bl hb910 |>.all4
        clear k3 k9
        have ho' : w7.heap.size ≤ o := ho7
        by_cases c3 : d1 < 0
        · have HN := Lib.hid (HB2.out.trans (if_pos (.inl c3)))
          have hd2 : d2 = d1 := by omega
          go_wp2_with fail
          exact ⟨⟨i + 1, l.text, d, d1, hlt, by go_num, (hb10.setCell ho' _).setCell ho' _, HN.out, by rw [← hd2]; exact (hbo10.set_ 0 _).set_ 5 _⟩, by simp [RowKit.intOf] <;> omega⟩
        · by_cases c4 : d < d1
          · have HN := Lib.hid (HB2.out.trans (if_pos (.inr c4)))
            go_wp2_with fail
            exact ⟨⟨i + 1, l.text, d, d1, hlt, by go_num, ((hb10.setCell ho' _).setCell ho' _).setCell ho' _, HN.out, ((hbo10.set_ 6 _).set_ 0 _).set_ 5 _⟩, by simp [RowKit.intOf] <;> omega⟩
          · have HB3 := Lib.hid (HB2.out.trans (if_neg (by omega)))
            by_cases c5 : d2 < 0
            · have HN := Lib.hid (HB3.out.trans (if_pos (.inl c5)))
              go_wp2_with fail
              exact ⟨⟨i + 1, t, d1, d, hlt, by go_num, hb10.setCell ho' _, HN.out, hbo10.set_ 6 _⟩, by simp [RowKit.intOf] <;> omega⟩
            · by_cases c6 : d < d2
              · have HN := Lib.hid (HB3.out.trans (if_pos (.inr c6)))
                go_wp2_with fail
                exact ⟨⟨i + 1, t, d1, d, hlt, by go_num, hb10.setCell ho' _, HN.out, hbo10.set_ 6 _⟩, by simp [RowKit.intOf] <;> omega⟩
              · have HN := Lib.hid (HB3.out.trans (if_neg (by omega)))
                go_wp2_with fail
                exact ⟨⟨i + 1, t, d1, d2, hlt, by go_num, hb10, HN.out, hbo10⟩, by simp [RowKit.intOf] <;> omega⟩
  · obtain rfl : i = ls.length := by omega
    have hbest := HBe.out
    rw [List.take_length] at hbest
    have ko := hbo.all7
    have k1 := (w41.bl (hb7.trans hbr)).all5
    have kz := (w44.bl (hb7.trans hbr)).all7
    have hoz : ¬ (o = w.heap.size + 1 + 1 + 1) := by have := hb7.le; omega
    have m1 := Int.mul_nonneg hm.1 (show 0 ≤ ht by omega)
    have m2 : most * ht ≤ 64000 := Int.le_trans (Int.mul_le_mul hm.2 hht.2 (by omega) (by omega)) (by decide)
    have m3 := Int.mul_nonneg m1 (show (0 : Int) ≤ (bw : Int) by omega)
    have m4 : most * ht * (bw : Int) ≤ 256000000 := Int.le_trans (Int.mul_le_mul m2 (show (bw : Int) ≤ 4000 by omega) (by omega) (by omega)) (by decide)
    have HBt := Lib.hid hbest
    clear hbest k9 HBe
    by_cases c1 : d1 < 0
    · have Hv := Lib.hid (show seenCells (bestOf cs bw H [] ls) X bw H most ht = [.string ⟨#[63]⟩, .int .i64 X, .int .i64 0, .int .i64 bw, .int .i64 H, .int .i64 (-1), .int .i64 (-1)] by
       rw [HBt.out]
       unfold seenCells farOff
       rw [if_pos (decide_eq_true (.inl c1))])
      go_wp2_with fail
      try simp only [Exit.then]
      refine bodyPost_ret (v := .agg #[.string ⟨#[63]⟩, .int .i64 X, .int .i64 0, .int .i64 bw, .int .i64 H, .int .i64 (-1), .int .i64 (-1)]) (by simp [results, Tryz.results95, go_sem, kz]) rfl ⟨by rw [← HCs.out, Hv.out], ?_⟩
      exact ((((((((w4b.trans (hb7.trans hbr)).setCell (by simp; omega) _).setCell (by simp; omega) _).setCell (by simp; omega) _).setCell (by simp; omega) _).setCell (by simp; omega) _).setCell (by simp; omega) _).setCell (by simp; omega) _)
    · by_cases c2 : most * ht * (bw : Int) < d1 * 1000
      · have Hv := Lib.hid (show seenCells (bestOf cs bw H [] ls) X bw H most ht = [.string ⟨#[63]⟩, .int .i64 X, .int .i64 0, .int .i64 bw, .int .i64 H, .int .i64 (-1), .int .i64 (-1)] by
         rw [HBt.out]
         unfold seenCells farOff
         rw [if_pos (decide_eq_true (.inr c2))])
        go_wp2_with fail
        try simp only [Exit.then]
        refine bodyPost_ret (v := .agg #[.string ⟨#[63]⟩, .int .i64 X, .int .i64 0, .int .i64 bw, .int .i64 H, .int .i64 (-1), .int .i64 (-1)]) (by simp [results, Tryz.results95, go_sem, kz]) rfl ⟨by rw [← HCs.out, Hv.out], ?_⟩
        exact ((((((((w4b.trans (hb7.trans hbr)).setCell (by simp; omega) _).setCell (by simp; omega) _).setCell (by simp; omega) _).setCell (by simp; omega) _).setCell (by simp; omega) _).setCell (by simp; omega) _).setCell (by simp; omega) _)
      · have Hv := Lib.hid (show seenCells (bestOf cs bw H [] ls) X bw H most ht = [.string ⟨t.toArray⟩, .int .i64 X, .int .i64 0, .int .i64 bw, .int .i64 H, .int .i64 d1, .int .i64 d2] by
         rw [HBt.out]
         unfold seenCells farOff
         rw [if_neg (by simp only [decide_eq_true_eq, not_or]; exact ⟨c1, c2⟩)])
        go_wp2_with fail
        try simp only [Exit.then]
        refine bodyPost_ret (v := .agg #[.string ⟨t.toArray⟩, .int .i64 X, .int .i64 0, .int .i64 bw, .int .i64 H, .int .i64 d1, .int .i64 d2]) (by simp [results, Tryz.results95, go_sem, kz]) rfl ⟨by rw [← HCs.out, Hv.out], ?_⟩
        exact ((((((((w4b.trans (hb7.trans hbr)).setCell (by simp; omega) _).setCell (by simp; omega) _).setCell (by simp; omega) _).setCell (by simp; omega) _).setCell (by simp; omega) _).setCell (by simp; omega) _).setCell (by simp; omega) _)

end Go.Proofs.YthobmednnocklaaGreatDoor


/-! glyph.Pieces. -/
namespace Go.Proofs.YthobmednnocklaaGreatDoor
open Go.RowKit

theorem info_box : (Tryz.prog.info? 26).map (fun i => (i.zero, i.size, i.bytes)) = some (some (.agg #[.int .i64 0, .int .i64 0, .int .i64 0, .int .i64 0]), 4, 32) := by kernel_rfl
theorem own_cell {w : World} {base : Nat} {e : TypeId} {size n g cap : Nat} {xs : List Value} (h : w.ownsRow base e size (.slice (some ⟨g, 0, none⟩) n cap) n xs) {j : Nat} {u : Value} (hj : xs[j]? = some u) : w.cell? ⟨g, j, none⟩ = some u := by
 obtain ⟨A, c, e2, hr⟩ := own_reads h
 injection e2 with e1 _ _
 subst e1
 have hlt : j < xs.length := (List.getElem?_eq_some_iff.1 hj).1
 have hn : 0 < n := by
  rcases Nat.eq_zero_or_pos n with h0 | h0
  · have := hr.1; rw [h0, Nat.zero_mul] at this; omega
  · exact h0
 obtain ⟨ad, e3, hc⟩ := hr.2 hn
 injection e3 with e3
 subst e3
 have := hc j u hj
 rwa [add_flat] at this
set_option maxRecDepth 100000 in
set_option maxHeartbeats 4000000 in
theorem glyphPieces_any (W H : Int) (A : Option Addr) (an ac : Nat) (bs : List Bool) (w : World) (hA : Reads w 1 A an (bs.map .bool)) :
 Calls Tryz.prog 94 #[.agg #[.int .i64 W, .int .i64 H, .slice A an ac]] w fun e w' => ∃ R m d, e = .returned (.tuple #[.slice R m d, .int .i64 (pageErr W H an)]) ∧ (pageErr W H an ≠ 0 → R = none ∧ m = 0) ∧
  (pageErr W H an = 0 → m = (piecesTo (colN bs W.toNat H.toNat) W.toNat).length ∧ Reads w' 4 R m (boxCells H.toNat (piecesTo (colN bs W.toNat H.toNat) W.toNat))) ∧ Bl w w' := by
 let w2 := (w).alloc (.cells #[.int .i64 W, .int .i64 H, .slice A an ac] 24)
 have w2b : Bl w w2 := (Bl.refl w).alloc _
 have w21 : Blk w2 (w.heap.size) 24 #[.int .i64 W, .int .i64 H, .slice A an ac] := by
  have h0 := Blk.new (w) 24 #[.int .i64 W, .int .i64 H, .slice A an ac]
  exact h0
 have lw2 : w2.heap.size = w.heap.size + 1 := by simp [w2]
 have Hcs := Lib.hid (columns_any W H A an ac bs w2 (hA.bl w2b))
 have k1 := w21.all3
 clear hA
 go_enter Tryz.func94, Tryz.ntmps94
 go_wp2_with fail
 refine Hcs.out.mono ?_
 rintro e w3 ⟨P, m, c, rfl, hT, hb3⟩
 clear_value w2
 clear Hcs k1
 by_cases hz : pageErr W H an = 0
 case neg =>
  have hq : (pageErr W H an == 0) = false := by simp [hz]
  have HZ := Lib.hid hz
  clear hz hT
  go_wp2_with fail
  refine bodyPost_ret (v := .tuple #[.slice none 0 0, .int .i64 (pageErr W H an)]) (by simp [results, Tryz.results94, go_sem]) rfl ⟨none, 0, 0, rfl, fun _ => ⟨rfl, rfl⟩, fun h => absurd h HZ.out, w2b.trans hb3⟩
 case pos =>
  have HZ := Lib.hid hz
  rw [hz]
  have hT1 := hT.1 hz
  obtain ⟨W, H, rfl, rfl, rfl, hW, hH, hWH⟩ := page_nat hz
  simp only [Int.toNat_natCast] at hT1
  obtain ⟨rfl, hP⟩ := hT1
  obtain ⟨f, hf⟩ : ∃ f, f = colN bs m H := ⟨_, rfl⟩
  have hfl : ∀ k, f k ≤ 4000 := fun k => by rw [hf]; have := colN_le bs m H k; omega
  have hcol : colI bs m H = fun k => ((f k : Nat) : Int) := by rw [hf]; rfl
  rw [hcol] at hP
  have k1 := (w21.bl hb3).all3
  have h0 : w3.ownsRow w3.heap.size 26 4 (.slice none 0 0) (piecesTo f 0).length (boxCells H (piecesTo f 0)) := World.ownsRow_nil _ _ _ _
  have HP := Lib.hid hP; have HF := Lib.hid hf; have HFl := Lib.hid hfl
  clear hz hP hf hcol hT hfl
  go_wp2_with fail
  go_loopw [20, 6] (fun u v wr => ∃ k : Nat, k ≤ m ∧ u = .int .i64 k ∧ Bl w3 wr ∧ wr.ownsRow w3.heap.size 26 4 v (piecesTo f k).length (boxCells H (piecesTo f k))) (fun u _ _ => m - (RowKit.intOf u).toNat)
  case atStart => exact ⟨0, Nat.zero_le _, rfl, Bl.refl _, h0⟩
  case round =>
   clear k1
   obtain ⟨k, hk, rfl, hbr, hown⟩ := hrel
   obtain ⟨R0, c0, rfl, -, -⟩ := own_new hown
   have k1 := (w21.bl (hb3.trans hbr)).all3
   have hpl := pieces_len f k
   have HOwn := Lib.hid hown
   by_cases hlt : k < m
   · obtain ⟨ad, u, rfl, hu, hc⟩ := (HP.out.bl hbr).at_ hlt
     have hu' : u = .int .i64 ((f k : Nat) : Int) := by
      rw [List.getElem?_map, tabL_get _ hlt] at hu
      exact (Option.some.inj hu).symm
     subst hu'
     have hnl := HFl.out k
     have hlast := pieces_last f k
     have hin := pieces_in f k
     have hst : piecesTo f (k + 1) = if f k = 0 then piecesTo f k else if ahead f k = true then wider (piecesTo f k) else piecesTo f k ++ [(k, 1)] := rfl
     obtain ⟨n, hn⟩ : ∃ n, n = f k := ⟨_, rfl⟩
     rw [← hn] at hnl hst hc
     have HSt := Lib.hid hst; have HLast := Lib.hid hlast; have HIn := Lib.hid hin
     clear hu hn hst hlast hin
     by_cases hz : n = 0
     · have hq : ((n : Int) == 0) = true := by rw [len0]; exact decide_eq_true hz
       have HN := Lib.hid (show piecesTo f (k + 1) = piecesTo f k by rw [HSt.out, if_pos hz])
       clear hz hown
       go_wp2_with fail
       exact ⟨⟨k + 1, hlt, by go_num, hbr, by rw [HN.out]; exact HOwn.out⟩, by simp [RowKit.intOf] <;> omega⟩
     · have hq : ((n : Int) == 0) = false := by rw [len0]; exact decide_eq_false hz
       cases ha : ahead f k
       · have HN := Lib.hid (show piecesTo f (k + 1) = piecesTo f k ++ [(k, 1)] by rw [HSt.out, if_neg hz, if_neg (by rw [ha]; decide)])
         rcases HLast.out.2 ha with he | ⟨l, p, he, hp⟩
         · have hlen : (piecesTo f k).length = 0 := by rw [he]; rfl
           have hlen0 := Lib.hid hlen
           rw [hlen] at hown ⊢
           have HOw := Lib.hid hown
           clear hown HOwn hz ha he hlen
           go_wp2_with fail
           refine wp_region_flow [(true, 0), (true, 1), (true, 2), (true, 3), (true, 4), (true, 5), (true, 6), (true, 7), (true, 8), (true, 9), (true, 10), (true, 11), (true, 12), (true, 13), (true, 14), (true, 15), (true, 16), (true, 17)] (fun _ => false) (by kernel_rfl) (by kernel_rfl) (by kernel_rfl) (by kernel_rfl) ?_
           iterate 1
            apply Flow.mv _ rfl
            · intro K' hK'
              simp only [sqA, Act.eval, arr_getD, List.getD_cons_zero, List.getD_cons_succ]
              exact hK'
           iterate 1
            apply Flow.calm2 _ _ rfl rfl
            · intro w' hb' K' hK'
              obtain ⟨hc', hf'⟩ := hb'.rule
              go_simp
              try go_ints
              exact hK'
            · intro K' hK'
              simp only [sqA]
              exact hK'
           iterate 1
            apply Flow.mv _ rfl
            · intro K' hK'
              simp only [sqA, Act.eval, arr_getD, List.getD_cons_zero, List.getD_cons_succ]
              exact hK'
           iterate 13
            first
             | (apply Flow.pass rfl (by rfl))
             | (apply Flow.calmG _ rfl (by rfl)
                · intro w' hb'
                  obtain ⟨hc', hf'⟩ := hb'.rule
                  go_simp
                  all_goals (try rfl))
            simp only [sqA]
            try go_ints
           iterate 1
            apply Flow.calm2 _ _ rfl rfl
            · intro w' hb' K' hK'
              obtain ⟨hc', hf'⟩ := hb'.rule
              go_simp
              try go_ints
              exact hK'
            · intro K' hK'
              simp only [sqA]
              exact hK'
           iterate 1
            apply Flow.asg _ rfl
            · intro K' hK'
              simp only [sqA, Act.eval, arr_getD, List.getD_cons_zero, List.getD_cons_succ]
              exact hK'
           refine Flow.done ?_
           go_wp2_with (at_builtin; refine wpList_append_bl (w1 := w3) rfl (.tmp 28) (.tmp 33) 134 rfl 26 (.agg #[.int .i64 0, .int .i64 0, .int .i64 0, .int .i64 0]) 4 32 Tryz.underlying134 info_box rfl (by omega) w3.heap.size _ 0 (boxCells H (piecesTo f k)) rfl (hbr.drew.alloc _) ?hB ?hBr ((own_bl HOw.out (Bl.refl _).drew).alloc _) (some ⟨wr.heap.size, 0, none⟩) 1 1 [.int .i64 k, .int .i64 0, .int .i64 1, .int .i64 H] rfl ((Blk.new _ _ _).reads 1 4 rfl) ?h1 ?c1 ?c2 ?_)
           case hB => exact Nat.le_refl _
           case hBr => have := hbr.le; first | omega | (simp; omega)
           case h1 => simp [Value.oneCell']
           case c1 => unfold maxLen; omega
           case c2 => omega
           intro v' w8 hown8 hb8 hg8
           have hcat : boxCells H (piecesTo f k) ++ [.int .i64 k, .int .i64 0, .int .i64 1, .int .i64 H] = boxCells H (piecesTo f (k + 1)) := by rw [HN.out, boxCells_append]; rfl
           rw [hcat] at hown8
           have hlen2 : (piecesTo f (k + 1)).length = 0 + 1 := by rw [HN.out, List.length_append, hlen0.out]; rfl
           have HO8 := Lib.hid hown8; have HL2 := Lib.hid hlen2
           clear hown8 hcat hlen2
           go_wp2_with fail
           exact ⟨⟨k + 1, hlt, by go_num, hb8, by rw [HL2.out]; exact HO8.out⟩, by simp [RowKit.intOf] <;> omega⟩
         · obtain ⟨N, hN⟩ : ∃ N, N = l.length := ⟨_, rfl⟩
           have hlen : (piecesTo f k).length = N + 1 := by rw [he, hN, List.length_append]; rfl
           have hlen0 := Lib.hid hlen
           rw [hlen] at hown ⊢
           obtain ⟨g, cap, e, hgB, -⟩ := own_some hown (by omega)
           injection e with e1 _ e3
           subst e1
           subst e3
           have hgl : (boxCells H (piecesTo f k))[N * 4 + 0]? = some (.int .i64 p.1) := by rw [boxCells_at (i := N) (p := p) (by rw [he, hN]; simp) 0 (by omega)]; rfl
           have hgw : (boxCells H (piecesTo f k))[N * 4 + 2]? = some (.int .i64 p.2) := by rw [boxCells_at (i := N) (p := p) (by rw [he, hN]; simp) 2 (by omega)]; rfl
           rw [Nat.add_zero] at hgl
           have hc1 := own_cell hown hgl
           have hc2 := own_cell hown hgw
           have hpi := HIn.out p (by rw [he]; simp)
           have q3 : ((p.1 : Int) + (p.2 : Int) == (k : Int)) = false := by simp; omega
           obtain ⟨px, hpx⟩ : ∃ x, x = p.1 := ⟨_, rfl⟩
           obtain ⟨pw, hpw⟩ : ∃ x, x = p.2 := ⟨_, rfl⟩
           rw [← hpx, ← hpw] at q3 hpi
           rw [← hpx] at hc1
           rw [← hpw] at hc2
           have hNN : (N : Int) < (N : Int) + 1 := by omega
           have HOw := Lib.hid hown
           rw [hlen] at hpl
           clear hown HOwn hz ha he hgl hgw hp hpx hpw hN hlen
           go_wp2_with fail
           refine wp_region_flow [(true, 0), (true, 1), (true, 2), (true, 3), (true, 4), (true, 5), (true, 6), (true, 7), (true, 8), (true, 9), (true, 10), (true, 11), (true, 12), (true, 13), (true, 14), (true, 15), (true, 16), (true, 17)] (fun _ => false) (by kernel_rfl) (by kernel_rfl) (by kernel_rfl) (by kernel_rfl) ?_
           iterate 1
            apply Flow.mv _ rfl
            · intro K' hK'
              simp only [sqA, Act.eval, arr_getD, List.getD_cons_zero, List.getD_cons_succ]
              exact hK'
           iterate 1
            apply Flow.calm2 _ _ rfl rfl
            · intro w' hb' K' hK'
              obtain ⟨hc', hf'⟩ := hb'.rule
              go_simp
              try go_ints
              exact hK'
            · intro K' hK'
              simp only [sqA]
              exact hK'
           iterate 1
            apply Flow.mv _ rfl
            · intro K' hK'
              simp only [sqA, Act.eval, arr_getD, List.getD_cons_zero, List.getD_cons_succ]
              exact hK'
           iterate 13
            first
             | (apply Flow.pass rfl (by rfl))
             | (apply Flow.calmG _ rfl (by rfl)
                · intro w' hb'
                  obtain ⟨hc', hf'⟩ := hb'.rule
                  go_simp
                  all_goals (try rfl))
            simp only [sqA]
            try go_ints
           iterate 1
            apply Flow.calm2 _ _ rfl rfl
            · intro w' hb' K' hK'
              obtain ⟨hc', hf'⟩ := hb'.rule
              go_simp
              try go_ints
              exact hK'
            · intro K' hK'
              simp only [sqA]
              exact hK'
           iterate 1
            apply Flow.asg _ rfl
            · intro K' hK'
              simp only [sqA, Act.eval, arr_getD, List.getD_cons_zero, List.getD_cons_succ]
              exact hK'
           refine Flow.done ?_
           go_wp2_with (at_builtin; refine wpList_append_bl (w1 := w3) rfl (.tmp 28) (.tmp 33) 134 rfl 26 (.agg #[.int .i64 0, .int .i64 0, .int .i64 0, .int .i64 0]) 4 32 Tryz.underlying134 info_box rfl (by omega) w3.heap.size _ (N + 1) (boxCells H (piecesTo f k)) rfl (hbr.drew.alloc _) ?hB ?hBr ((own_bl HOw.out (Bl.refl _).drew).alloc _) (some ⟨wr.heap.size, 0, none⟩) 1 1 [.int .i64 k, .int .i64 0, .int .i64 1, .int .i64 H] rfl ((Blk.new _ _ _).reads 1 4 rfl) ?h1 ?c1 ?c2 ?_)
           case hB => exact Nat.le_refl _
           case hBr => have := hbr.le; first | omega | (simp; omega)
           case h1 => simp [Value.oneCell']
           case c1 => unfold maxLen; omega
           case c2 => omega
           intro v' w8 hown8 hb8 hg8
           have hcat : boxCells H (piecesTo f k) ++ [.int .i64 k, .int .i64 0, .int .i64 1, .int .i64 H] = boxCells H (piecesTo f (k + 1)) := by rw [HN.out, boxCells_append]; rfl
           rw [hcat] at hown8
           have hlen2 : (piecesTo f (k + 1)).length = (N + 1) + 1 := by rw [HN.out, List.length_append, hlen0.out]; rfl
           have HO8 := Lib.hid hown8; have HL2 := Lib.hid hlen2
           clear hown8 hcat hlen2
           go_wp2_with fail
           exact ⟨⟨k + 1, hlt, by go_num, hb8, by rw [HL2.out]; exact HO8.out⟩, by simp [RowKit.intOf] <;> omega⟩
       · have HN := Lib.hid (show piecesTo f (k + 1) = wider (piecesTo f k) by rw [HSt.out, if_neg hz, if_pos ha])
         obtain ⟨l, p, he, hp⟩ := HLast.out.1 ha
         obtain ⟨N, hN⟩ : ∃ N, N = l.length := ⟨_, rfl⟩
         have hlen : (piecesTo f k).length = N + 1 := by rw [he, hN, List.length_append]; rfl
         rw [hlen] at hown ⊢
         obtain ⟨g, cap, e, hgB, -⟩ := own_some hown (by omega)
         injection e with e1 _ e3
         subst e1
         subst e3
         have hgl : (boxCells H (piecesTo f k))[N * 4 + 0]? = some (.int .i64 p.1) := by rw [boxCells_at (i := N) (p := p) (by rw [he, hN]; simp) 0 (by omega)]; rfl
         have hgw : (boxCells H (piecesTo f k))[N * 4 + 2]? = some (.int .i64 p.2) := by rw [boxCells_at (i := N) (p := p) (by rw [he, hN]; simp) 2 (by omega)]; rfl
         rw [Nat.add_zero] at hgl
         have hc1 := own_cell hown hgl
         have hc2 := own_cell hown hgw
         have hfz := (own_blk hown).2
         have hpi := HIn.out p (by rw [he]; simp)
         have q3 : ((p.1 : Int) + (p.2 : Int) == (k : Int)) = true := by simp; omega
         have hwd : (boxCells H (piecesTo f k)).set (N * 4 + 2) (.int .i64 ((p.2 : Int) + 1)) = boxCells H (piecesTo f (k + 1)) := by rw [HN.out, he, hN]; exact boxCells_wider H l p
         have hlen2 : (piecesTo f (k + 1)).length = N + 1 := by rw [HN.out, wider_length, hlen]
         have hset := ownsRow_set hown (N * 4 + 2) (.int .i64 ((p.2 : Int) + 1))
         rw [hwd] at hset
         obtain ⟨px, hpx⟩ : ∃ x, x = p.1 := ⟨_, rfl⟩
         obtain ⟨pw, hpw⟩ : ∃ x, x = p.2 := ⟨_, rfl⟩
         rw [← hpx, ← hpw] at q3 hpi
         rw [← hpx] at hc1
         rw [← hpw] at hc2 hset
         have HSet := Lib.hid hset; have HL2 := Lib.hid hlen2
         have hgw3 : w3.heap.size ≤ g := hgB
         have hNN : (N : Int) < (N : Int) + 1 := by omega
         rw [hlen] at hpl
         clear hown HOwn hz ha he hgl hgw hp hpx hpw hN hset hwd hlen2 hlen
         go_wp2_with fail
         refine wp_region_flow [(true, 0), (true, 1), (true, 2), (true, 3), (true, 4), (true, 5), (true, 6), (true, 7), (true, 8), (true, 9), (true, 10), (true, 11), (true, 12), (true, 13), (true, 14), (true, 15), (true, 16), (true, 17)] (fun _ => false) (by kernel_rfl) (by kernel_rfl) (by kernel_rfl) (by kernel_rfl) ?_
         iterate 1
          apply Flow.mv _ rfl
          · intro K' hK'
            simp only [sqA, Act.eval, arr_getD, List.getD_cons_zero, List.getD_cons_succ]
            exact hK'
         iterate 1
          apply Flow.calm2 _ _ rfl rfl
          · intro w' hb' K' hK'
            obtain ⟨hc', hf'⟩ := hb'.rule
            go_simp
            try go_ints
            exact hK'
          · intro K' hK'
            simp only [sqA]
            exact hK'
         iterate 1
          apply Flow.mv _ rfl
          · intro K' hK'
            simp only [sqA, Act.eval, arr_getD, List.getD_cons_zero, List.getD_cons_succ]
            exact hK'
         iterate 13
          first
           | (apply Flow.pass rfl (by rfl))
           | (apply Flow.calmG _ rfl (by rfl)
              · intro w' hb'
                obtain ⟨hc', hf'⟩ := hb'.rule
                go_simp
                all_goals (try rfl))
          simp only [sqA]
          try go_ints
         iterate 1
          apply Flow.calm2 _ _ rfl rfl
          · intro w' hb' K' hK'
            obtain ⟨hc', hf'⟩ := hb'.rule
            go_simp
            try go_ints
            exact hK'
          · intro K' hK'
            simp only [sqA]
            exact hK'
         iterate 1
          apply Flow.asg _ rfl
          · intro K' hK'
            simp only [sqA, Act.eval, arr_getD, List.getD_cons_zero, List.getD_cons_succ]
            exact hK'
         refine Flow.done ?_
         go_wp2_with fail
         exact ⟨⟨k + 1, hlt, by go_num, (hbr.drew).setCell hgw3 _, by rw [HL2.out]; exact own_bl HSet.out (Bl.refl _).drew⟩, by simp [RowKit.intOf] <;> omega⟩
   · obtain rfl : k = m := by omega
     obtain ⟨R, d, e, hR⟩ := own_reads hown
     injection e with e1 _ e3
     subst e1
     subst e3
     have HR := Lib.hid hR
     clear hown hR
     go_wp2_with fail
     refine bodyPost_ret (v := .tuple #[.slice R0 (piecesTo f k).length c0, .int .i64 0]) (by simp [results, Tryz.results94, go_sem]) rfl ⟨R0, (piecesTo f k).length, ⟨c0, by rw [HZ.out]⟩, fun h => absurd HZ.out h, ?_, (w2b.trans hb3).trans hbr⟩
     intro _
     first
      | (simp only [Int.toNat_natCast]; rw [← HF.out]; exact ⟨rfl, HR.out⟩)
      | (rw [← HF.out]; exact ⟨rfl, HR.out⟩)

end Go.Proofs.YthobmednnocklaaGreatDoor
