/- strings.Builder at this program: copyCheck, WriteByte, String. -/
import Derived.Test.YthobmednnocklaaGreatDoorMClaimFills3
import Derived.Test.YthobmednnocklaaGreatDoorMClaimFills4
import Derived.Test.YthobmednnocklaaGreatDoorMClaimFills1
import Derived.Test.YthobmednnocklaaGreatDoorMClaimFills0
import Derived.Carry
import Derived.MapFrom
import Derived.Laws.StructEq
import Derived.MapKept
import Derived.WalkKit
import Derived.Ground.NamesProg
import Derived.Shelf.Lay
import Derived.Shelf.Strings.Builder1
import Derived.Shelf.Strings.BuilderF
import Derived.Shelf.Strings.BuilderK

namespace Go.Proofs.YthobmednnocklaaGreatDoor
open Go.RowKit

theorem Blk.all5 {w : World} {g : Nat} {t : TypeId} {x y z u v : Value} (h : Blk w g t #[x, y, z, u, v]) : w.cell? ⟨g, 0, none⟩ = some x ∧ w.cell? ⟨g, 1, none⟩ = some y ∧ w.cell? ⟨g, 2, none⟩ = some z ∧ w.cell? ⟨g, 3, none⟩ = some u ∧ w.cell? ⟨g, 4, none⟩ = some v ∧ ∀ i, w.frozen? ⟨g, i, none⟩ = false := ⟨h.cell 0, h.cell 1, h.cell 2, h.cell 3, h.cell 4, h.frozen⟩
theorem first5_any (e1 e2 e3 e4 e5 : Int) (g : Nat) (w : World) (h : Blk w g 31 #[.int .i64 e1, .int .i64 e2, .int .i64 e3, .int .i64 e4, .int .i64 e5]) :
 Calls Tryz.prog 7 #[.slice (some ⟨g, 0, none⟩) 5 5] w fun e w' => e = .returned (.int .i64 (firstNZ [e1, e2, e3, e4, e5])) ∧ w = w' :=
 first_any (some ⟨g, 0, none⟩) 5 [e1, e2, e3, e4, e5] w (h.reads 5 1 rfl) (by simp)
theorem firstNZ_append (a b : List Int) : firstNZ (a ++ b) = if firstNZ a = 0 then firstNZ b else firstNZ a := by
 induction a with
 | nil => simp [firstNZ]
 | cons x a ih =>
  show (if x = 0 then firstNZ (a ++ b) else x) = _
  by_cases h : x = 0
  · rw [if_pos h, ih]
    show _ = if (if x = 0 then firstNZ a else x) = 0 then _ else (if x = 0 then firstNZ a else x)
    rw [if_pos h]
  · rw [if_neg h]
    show _ = if (if x = 0 then firstNZ a else x) = 0 then _ else (if x = 0 then firstNZ a else x)
    rw [if_neg h, if_neg h]
/-- What is asked of a letter first .. -/
def ltrE1 (prev : List (List UInt8)) (l : Ltr) : Int := firstNZ [whenI (!textB l.text) 2, whenI (decide (l.text ∈ prev)) 6, pageErr l.W l.H l.m]
/-- .. and then. -/
def ltrE2 (ht : Int) (l : Ltr) : Int := firstNZ [whenI (l.H != ht) 11, whenI (decide (64 < l.W)) 4, whenI (bareB l.bs l.W.toNat l.H.toNat) 2]
theorem ltrErr_parts (ht : Int) (prev : List (List UInt8)) (l : Ltr) : ltrErr ht prev l = if ltrE1 prev l = 0 then ltrE2 ht l else ltrE1 prev l :=
 firstNZ_append [whenI (!textB l.text) 2, whenI (decide (l.text ∈ prev)) 6, pageErr l.W l.H l.m] _
theorem ltrE1_zero {prev : List (List UInt8)} {l : Ltr} (h : ltrE1 prev l = 0) : pageErr l.W l.H l.m = 0 := by
 unfold ltrE1 at h
 have h2 := firstNZ_append [whenI (!textB l.text) 2, whenI (decide (l.text ∈ prev)) 6] [pageErr l.W l.H l.m]
 rw [show [whenI (!textB l.text) 2, whenI (decide (l.text ∈ prev)) 6] ++ [pageErr l.W l.H l.m] = [whenI (!textB l.text) 2, whenI (decide (l.text ∈ prev)) 6, pageErr l.W l.H l.m] from rfl, h] at h2
 split at h2
 · simp only [firstNZ] at h2
   by_cases h3 : pageErr l.W l.H l.m = 0
   · exact h3
   · rw [if_neg h3] at h2; exact h2.symm
 · rename_i h3; exact absurd h2.symm h3

set_option maxRecDepth 100000 in
set_option maxHeartbeats 1000000 in
theorem fontError1_any (b : Nat) (l y : Ltr) (w : World) (hb : Blk w b 88 #[.string ⟨l.text.toArray⟩, .int .i64 l.W, .int .i64 l.H, .slice l.A l.m l.c]) :
 Calls Tryz.prog 39 #[y.val, .pointer (some ⟨b, 0, none⟩)] w fun e w' => e = .returned (.bool (decide (y.text = l.text))) ∧ Bl w w' := by
 have k1 := hb.all4
 have hlt := hb.lt
 unfold Ltr.val
 by_cases he : y.text = l.text
 · rw [decide_eq_true he]
   go_enter Tryz.func39, Tryz.ntmps39
   go_wp2_with fail
   go_ret
   exact ⟨by simp [he], (Bl.refl _).alloc _⟩
 · rw [decide_eq_false he]
   go_enter Tryz.func39, Tryz.ntmps39
   go_wp2_with fail
   go_ret
   exact ⟨by simp [he], (Bl.refl _).alloc _⟩

end Go.Proofs.YthobmednnocklaaGreatDoor


/-! bedref2.FontError is fontErr. -/
namespace Go.Proofs.YthobmednnocklaaGreatDoor
open Go.RowKit

theorem bare_mem (bs : List Bool) (W H : Nat) : decide ((0 : Int) ∈ tabL W (colI bs W H)) = bareB bs W H := by
 unfold bareB
 apply decide_eq_decide.2
 constructor
 · intro h
   obtain ⟨x, hx⟩ := List.getElem?_of_mem h
   have hlt : x < W := by have := (List.getElem?_eq_some_iff.1 hx).1; rwa [tabL_len] at this
   rw [tabL_get _ hlt] at hx
   have h2 : colI bs W H x = 0 := Option.some.inj hx
   exact ⟨x, hlt, by unfold colI at h2; omega⟩
 · rintro ⟨x, hx, h0⟩
   refine List.mem_of_getElem? (i := x) ?_
   rw [tabL_get _ hx]
   unfold colI
   rw [h0]; rfl
theorem len0 (n : Nat) : ((n : Int) == 0) = decide (n = 0) := by
 cases n with
 | zero => rfl
 | succ n => rw [decide_eq_false (by omega)]; exact beq_eq_false_iff_ne.2 (by omega)
theorem len200 (n : Nat) : decide (200 < (n : Int)) = decide (200 < n) := decide_eq_decide.2 (by omega)
theorem prev_mem (ls : List Ltr) (t : List UInt8) : decide (∃ l ∈ ls, decide (l.text = t) = true) = decide (t ∈ ls.map Ltr.text) := by
 apply decide_eq_decide.2
 constructor
 · rintro ⟨l, hl, h⟩
   exact List.mem_map.2 ⟨l, hl, of_decide_eq_true h⟩
 · intro h
   obtain ⟨l, hl, h2⟩ := List.mem_map.1 h
   exact ⟨l, hl, decide_eq_true h2⟩

theorem fontError1_enters : ∀ args w, (callFunc 39 args).run Tryz.prog w = .ok (.enter 39 args) w := enters Tryz.func39 (by kernel_rfl) rfl
/-- Was the text met before? -/
theorem letter_twice (L : Option Addr) (c : Nat) (ls : List Ltr) (i : Nat) (hi : i ≤ ls.length) (b : Nat) (l : Ltr) (w : World) (hL : LtrsAt w L ls) (hb : Blk w b 88 #[.string ⟨l.text.toArray⟩, .int .i64 l.W, .int .i64 l.H, .slice l.A l.m l.c]) (hn : ls.length ≤ 9223372036854775807) :
 ∀ wx, Bl w wx → Calls Tryz.prog 38 #[.slice L i c, .func (.func 39) #[] #[.pointer (some ⟨b, 0, none⟩)]] wx fun e w' => e = .returned (.bool (decide (l.text ∈ (ls.take i).map Ltr.text))) ∧ Bl wx w' := by
 intro wx hx
 have hl : (ls.take i).length = i := by simp; omega
 have hT : Tests Tryz.prog 39 #[.pointer (some ⟨b, 0, none⟩)] wx (ls.take i) (fun y => decide (y.text = l.text)) :=
  ⟨fontError1_enters, fun wy y hy _ => fontError1_any b l y wy (hb.bl (hx.trans hy))⟩
 have h := ltrContains_any L c (ls.take i) _ _ _ wx ((hL.bl hx).take i hi) hT (by omega)
 rw [hl] at h
 rw [← prev_mem]
 exact h
/-- Is a column bare? -/
theorem letter_bare (l : Ltr) (w : World) (hA : Reads w 1 l.A l.m (l.bs.map .bool)) (hp : pageErr l.W l.H l.m = 0) :
 ∀ wx, Bl w wx → Calls Tryz.prog 41 #[.agg #[.int .i64 l.W, .int .i64 l.H, .slice l.A l.m l.c]] wx fun e w' => ∃ P n d, e = .returned (.slice P n d) ∧ Bl wx w' ∧
  ∀ wy, Bl w' wy → Calls Tryz.prog 40 #[.slice P n d, .int .i64 0] wy fun e w' => e = .returned (.bool (bareB l.bs l.W.toNat l.H.toNat)) ∧ wy = w' := by
 obtain ⟨t, W, H, A, m, c, bs⟩ := l
 obtain ⟨W, H, rfl, rfl, rfl, hW, hH, -⟩ := page_nat hp
 intro wx hx
 refine (columnsOf_any W H A c bs wx (hA.bl hx) hW hH).mono ?_
 rintro e w' ⟨P, d, rfl, hP, hb⟩
 refine ⟨P, W, d, rfl, hb, fun wy hy => ?_⟩
 have h := containsI_any P W d _ 0 wy (hP.bl hy) (by omega)
 rw [bare_mem] at h
 exact h

set_option maxRecDepth 100000 in
set_option maxHeartbeats 8000000 in
theorem fontError_any (nm : List UInt8) (ht gap sp : Int) (L : Option Addr) (c : Nat) (ls : List Ltr) (w : World) (hL : LtrsAt w L ls) (hnm : nm.length ≤ 9223372036854775807) (hn : ls.length ≤ 9223372036854775807) (hc : ls.length ≤ c) :
 Calls Tryz.prog 8 #[.agg #[.string ⟨nm.toArray⟩, .int .i64 ht, .int .i64 gap, .int .i64 sp, .slice L ls.length c]] w fun e w' => e = .returned (.int .i64 (fontErr (nameB nm) ht gap sp ls)) ∧ Bl w w' := by
 let w1 := (w).alloc (.cells #[.string ⟨nm.toArray⟩, .int .i64 ht, .int .i64 gap, .int .i64 sp, .slice L ls.length c] 29)
 have w1b : Bl w w1 := (Bl.refl w).alloc _
 have w11 : Blk w1 (w.heap.size) 29 #[.string ⟨nm.toArray⟩, .int .i64 ht, .int .i64 gap, .int .i64 sp, .slice L ls.length c] := by
  have h0 := Blk.new (w) 29 #[.string ⟨nm.toArray⟩, .int .i64 ht, .int .i64 gap, .int .i64 sp, .slice L ls.length c]
  exact h0
 have HL := Lib.hid (hL.bl w1b)
 have hnm' := fun w => nameOf_any ⟨nm.toArray⟩ w (by rw [Lib.size_mk]; exact hnm)
 have HNm := Lib.hid hnm'
 have k1 := w11.all5
 clear hL hnm'
 obtain ⟨E0, hE0⟩ : ∃ E, E = fontHead (nameB nm) ht gap sp ls.length := ⟨_, rfl⟩
 have HE0 := Lib.hid hE0
 clear hE0
 go_enter Tryz.func8, Tryz.ntmps8
 go_upto_region 1 with fail
 go_cut [3] from 8 to 47 (fun s3 wc => s3 = .int .i64 E0 ∧ Bl w1 wc)
 case first =>
  cases h1 : inB ht 1 64
  · have hf : firstNZ [whenI (!nameB nm) 5, whenI true 3, whenI (decide (sp ≤ gap)) 7, whenI ((ls.length : Int) == 0) 9, whenI (decide (200 < (ls.length : Int))) 4] = E0 := by
     rw [HE0.out]; unfold fontHead rangeB; rw [h1]; rw [len0, len200]; rfl
    refine wp_region_flow [(true, 0), (true, 1), (true, 5), (true, 6), (true, 22), (true, 23), (true, 24), (true, 25), (true, 26), (true, 28), (true, 29), (true, 30), (true, 31), (true, 33), (true, 34), (true, 35), (true, 36), (false, 2), (true, 3), (false, 4), (false, 7), (true, 8), (true, 9), (true, 10), (true, 11), (false, 12), (true, 13), (true, 14), (true, 15), (true, 16), (true, 17), (false, 18), (true, 19), (true, 20), (false, 21), (false, 27), (false, 32), (false, 37), (false, 38), (false, 39), (true, 40)] (fun _ => false) (by kernel_rfl) (by kernel_rfl) (by kernel_rfl) (by kernel_rfl) ?_
    iterate 17
     apply Flow.calm2 _ _ rfl rfl
     · intro w' hb' K' hK'
       obtain ⟨hc', hf'⟩ := hb'.rule
       go_simp
       try go_ints
       exact hK'
     · intro K' hK'
       simp only [sqA]
       exact hK'
    apply Flow.move rfl
    go_wp2_with fail
    refine (HNm.out _).mono ?_
    rintro e w2 ⟨rfl, HB1⟩
    have hb2 : Bl w1 w2 := Bl.ofDrew HB1
    have k2 := (w11.bl hb2).all5
    go_wp2_with fail
    refine ⟨fun _ => (by first | exact HB1 | exact Bl.refl _), ?_⟩
    iterate 1
     apply Flow.calm2 _ _ rfl rfl
     · intro w' hb' K' hK'
       obtain ⟨hc', hf'⟩ := hb'.rule
       go_simp
       try go_ints
       exact hK'
     · intro K' hK'
       simp only [sqA]
       exact hK'
    apply Flow.move rfl
    go_wp2_with fail
    refine (when_any _ _ _).mono ?_
    rintro e w' ⟨rfl, rfl⟩
    go_wp2_with fail
    refine ⟨fun _ => (by first | exact HB2 | exact Bl.refl _), ?_⟩
    apply Flow.move rfl
    go_wp2_with fail
    refine (in_any _ _ _ _).mono ?_
    rintro e w' ⟨rfl, rfl⟩
    go_wp2_with fail
    refine ⟨fun _ => (by first | exact HB3 | exact Bl.refl _), ?_⟩
    iterate 1
     apply Flow.calm2 _ _ rfl rfl
     · intro w' hb' K' hK'
       obtain ⟨hc', hf'⟩ := hb'.rule
       go_simp
       try go_ints
       exact hK'
     · intro K' hK'
       simp only [sqA]
       exact hK'
    iterate 1
     apply Flow.mv _ rfl
     · intro K' hK'
       simp only [sqA, Act.eval, arr_getD, List.getD_cons_zero, List.getD_cons_succ]
       exact hK'
    iterate 2
     first
      | (apply Flow.pass rfl (by rfl))
      | (apply Flow.calmG _ rfl (by rfl)
         · intro w' hb'
           obtain ⟨hc', hf'⟩ := hb'.rule
           go_simp
           all_goals (try rfl))
     simp only [sqA]
     try go_ints
    -- a guarded mover
    apply Flow.move rfl
    go_wp2_with fail
    first | refine ⟨fun _ => Bl.refl _, ?_⟩ | refine ⟨Bl.refl _, ?_⟩
    first
     | (apply Flow.pass rfl (by rfl))
     | (apply Flow.calmG _ rfl (by rfl)
        · intro w' hb'
          obtain ⟨hc', hf'⟩ := hb'.rule
          go_simp
          all_goals (try rfl))
    simp only [sqA]
    try go_ints
    iterate 1
     apply Flow.calm2 _ _ rfl rfl
     · intro w' hb' K' hK'
       obtain ⟨hc', hf'⟩ := hb'.rule
       go_simp
       try go_ints
       exact hK'
     · intro K' hK'
       simp only [sqA]
       exact hK'
    iterate 1
     apply Flow.mv _ rfl
     · intro K' hK'
       simp only [sqA, Act.eval, arr_getD, List.getD_cons_zero, List.getD_cons_succ]
       exact hK'
    iterate 2
     first
      | (apply Flow.pass rfl (by rfl))
      | (apply Flow.calmG _ rfl (by rfl)
         · intro w' hb'
           obtain ⟨hc', hf'⟩ := hb'.rule
           go_simp
           all_goals (try rfl))
     simp only [sqA]
     try go_ints
    -- a guarded mover
    apply Flow.move rfl
    go_wp2_with fail
    first | refine ⟨fun _ => Bl.refl _, ?_⟩ | refine ⟨Bl.refl _, ?_⟩
    first
     | (apply Flow.pass rfl (by rfl))
     | (apply Flow.calmG _ rfl (by rfl)
        · intro w' hb'
          obtain ⟨hc', hf'⟩ := hb'.rule
          go_simp
          all_goals (try rfl))
    simp only [sqA]
    try go_ints
    iterate 1
     apply Flow.calm2 _ _ rfl rfl
     · intro w' hb' K' hK'
       obtain ⟨hc', hf'⟩ := hb'.rule
       go_simp
       try go_ints
       exact hK'
     · intro K' hK'
       simp only [sqA]
       exact hK'
    apply Flow.move rfl
    go_wp2_with fail
    refine (when_any _ _ _).mono ?_
    rintro e w' ⟨rfl, rfl⟩
    go_wp2_with fail
    refine ⟨fun _ => (by first | exact HB6 | exact Bl.refl _), ?_⟩
    apply Flow.move rfl
    go_wp2_with fail
    refine (when_any _ _ _).mono ?_
    rintro e w' ⟨rfl, rfl⟩
    go_wp2_with fail
    refine ⟨fun _ => (by first | exact HB7 | exact Bl.refl _), ?_⟩
    apply Flow.move rfl
    go_wp2_with fail
    refine (when_any _ _ _).mono ?_
    rintro e w' ⟨rfl, rfl⟩
    go_wp2_with fail
    refine ⟨fun _ => (by first | exact HB8 | exact Bl.refl _), ?_⟩
    apply Flow.move rfl
    go_wp2_with fail
    refine (when_any _ _ _).mono ?_
    rintro e w' ⟨rfl, rfl⟩
    go_wp2_with fail
    refine ⟨fun _ => (by first | exact HB9 | exact Bl.refl _), ?_⟩
    apply Flow.move rfl
    go_wp2_with fail
    first | refine ⟨fun _ => ?_, ?_⟩ | refine ⟨?_, ?_⟩
    · repeat' (first | exact Bl.refl _ | refine Bl.drewL ?_ | refine Bl.drew ?_ | refine Bl.alloc ?_ _)
    apply Flow.move rfl
    go_wp2_with fail
    refine (first5_any _ _ _ _ _ _ _ (Blk.new _ _ _)).mono ?_
    rintro e w' ⟨rfl, rfl⟩
    go_wp2_with fail
    refine ⟨fun _ => (by first | exact HB11 | exact Bl.refl _), ?_⟩
    iterate 1
     apply Flow.asg _ rfl
     · intro K' hK'
       simp only [sqA, Act.eval, arr_getD, List.getD_cons_zero, List.getD_cons_succ]
       exact hK'
    refine Flow.done ?_
    go_wp2_with fail
    go_meet
    case rel => exact ⟨rfl, hb2.alloc _⟩
  · cases h2 : inB gap 1 16
    · have hf : firstNZ [whenI (!nameB nm) 5, whenI true 3, whenI (decide (sp ≤ gap)) 7, whenI ((ls.length : Int) == 0) 9, whenI (decide (200 < (ls.length : Int))) 4] = E0 := by
       rw [HE0.out]; unfold fontHead rangeB; rw [h1, h2]; rw [len0, len200]; rfl
      refine wp_region_flow [(true, 0), (true, 1), (true, 5), (true, 6), (true, 22), (true, 23), (true, 24), (true, 25), (true, 26), (true, 28), (true, 29), (true, 30), (true, 31), (true, 33), (true, 34), (true, 35), (true, 36), (false, 2), (true, 3), (false, 4), (false, 7), (true, 8), (true, 9), (true, 10), (true, 11), (false, 12), (true, 13), (true, 14), (true, 15), (true, 16), (true, 17), (false, 18), (true, 19), (true, 20), (false, 21), (false, 27), (false, 32), (false, 37), (false, 38), (false, 39), (true, 40)] (fun _ => false) (by kernel_rfl) (by kernel_rfl) (by kernel_rfl) (by kernel_rfl) ?_
      iterate 17
       apply Flow.calm2 _ _ rfl rfl
       · intro w' hb' K' hK'
         obtain ⟨hc', hf'⟩ := hb'.rule
         go_simp
         try go_ints
         exact hK'
       · intro K' hK'
         simp only [sqA]
         exact hK'
      apply Flow.move rfl
      go_wp2_with fail
      refine (HNm.out _).mono ?_
      rintro e w2 ⟨rfl, HB1⟩
      have hb2 : Bl w1 w2 := Bl.ofDrew HB1
      have k2 := (w11.bl hb2).all5
      go_wp2_with fail
      refine ⟨fun _ => (by first | exact HB1 | exact Bl.refl _), ?_⟩
      iterate 1
       apply Flow.calm2 _ _ rfl rfl
       · intro w' hb' K' hK'
         obtain ⟨hc', hf'⟩ := hb'.rule
         go_simp
         try go_ints
         exact hK'
       · intro K' hK'
         simp only [sqA]
         exact hK'
      apply Flow.move rfl
      go_wp2_with fail
      refine (when_any _ _ _).mono ?_
      rintro e w' ⟨rfl, rfl⟩
      go_wp2_with fail
      refine ⟨fun _ => (by first | exact HB2 | exact Bl.refl _), ?_⟩
      apply Flow.move rfl
      go_wp2_with fail
      refine (in_any _ _ _ _).mono ?_
      rintro e w' ⟨rfl, rfl⟩
      go_wp2_with fail
      refine ⟨fun _ => (by first | exact HB3 | exact Bl.refl _), ?_⟩
      iterate 1
       apply Flow.calm2 _ _ rfl rfl
       · intro w' hb' K' hK'
         obtain ⟨hc', hf'⟩ := hb'.rule
         go_simp
         try go_ints
         exact hK'
       · intro K' hK'
         simp only [sqA]
         exact hK'
      iterate 1
       apply Flow.mv _ rfl
       · intro K' hK'
         simp only [sqA, Act.eval, arr_getD, List.getD_cons_zero, List.getD_cons_succ]
         exact hK'
      iterate 2
       first
        | (apply Flow.pass rfl (by rfl))
        | (apply Flow.calmG _ rfl (by rfl)
           · intro w' hb'
             obtain ⟨hc', hf'⟩ := hb'.rule
             go_simp
             all_goals (try rfl))
       simp only [sqA]
       try go_ints
      -- a guarded mover
      apply Flow.move rfl
      go_wp2_with fail
      refine (in_any _ _ _ _).mono ?_
      rintro e w' ⟨rfl, rfl⟩
      go_wp2_with fail
      refine ⟨fun _ => (by first | exact HB4 | exact Bl.refl _), ?_⟩
      first
       | (apply Flow.pass rfl (by rfl))
       | (apply Flow.calmG _ rfl (by rfl)
          · intro w' hb'
            obtain ⟨hc', hf'⟩ := hb'.rule
            go_simp
            all_goals (try rfl))
      simp only [sqA]
      try go_ints
      iterate 1
       apply Flow.calm2 _ _ rfl rfl
       · intro w' hb' K' hK'
         obtain ⟨hc', hf'⟩ := hb'.rule
         go_simp
         try go_ints
         exact hK'
       · intro K' hK'
         simp only [sqA]
         exact hK'
      iterate 1
       apply Flow.mv _ rfl
       · intro K' hK'
         simp only [sqA, Act.eval, arr_getD, List.getD_cons_zero, List.getD_cons_succ]
         exact hK'
      iterate 2
       first
        | (apply Flow.pass rfl (by rfl))
        | (apply Flow.calmG _ rfl (by rfl)
           · intro w' hb'
             obtain ⟨hc', hf'⟩ := hb'.rule
             go_simp
             all_goals (try rfl))
       simp only [sqA]
       try go_ints
      -- a guarded mover
      apply Flow.move rfl
      go_wp2_with fail
      first | refine ⟨fun _ => Bl.refl _, ?_⟩ | refine ⟨Bl.refl _, ?_⟩
      first
       | (apply Flow.pass rfl (by rfl))
       | (apply Flow.calmG _ rfl (by rfl)
          · intro w' hb'
            obtain ⟨hc', hf'⟩ := hb'.rule
            go_simp
            all_goals (try rfl))
      simp only [sqA]
      try go_ints
      iterate 1
       apply Flow.calm2 _ _ rfl rfl
       · intro w' hb' K' hK'
         obtain ⟨hc', hf'⟩ := hb'.rule
         go_simp
         try go_ints
         exact hK'
       · intro K' hK'
         simp only [sqA]
         exact hK'
      apply Flow.move rfl
      go_wp2_with fail
      refine (when_any _ _ _).mono ?_
      rintro e w' ⟨rfl, rfl⟩
      go_wp2_with fail
      refine ⟨fun _ => (by first | exact HB6 | exact Bl.refl _), ?_⟩
      apply Flow.move rfl
      go_wp2_with fail
      refine (when_any _ _ _).mono ?_
      rintro e w' ⟨rfl, rfl⟩
      go_wp2_with fail
      refine ⟨fun _ => (by first | exact HB7 | exact Bl.refl _), ?_⟩
      apply Flow.move rfl
      go_wp2_with fail
      refine (when_any _ _ _).mono ?_
      rintro e w' ⟨rfl, rfl⟩
      go_wp2_with fail
      refine ⟨fun _ => (by first | exact HB8 | exact Bl.refl _), ?_⟩
      apply Flow.move rfl
      go_wp2_with fail
      refine (when_any _ _ _).mono ?_
      rintro e w' ⟨rfl, rfl⟩
      go_wp2_with fail
      refine ⟨fun _ => (by first | exact HB9 | exact Bl.refl _), ?_⟩
      apply Flow.move rfl
      go_wp2_with fail
      first | refine ⟨fun _ => ?_, ?_⟩ | refine ⟨?_, ?_⟩
      · repeat' (first | exact Bl.refl _ | refine Bl.drewL ?_ | refine Bl.drew ?_ | refine Bl.alloc ?_ _)
      apply Flow.move rfl
      go_wp2_with fail
      refine (first5_any _ _ _ _ _ _ _ (Blk.new _ _ _)).mono ?_
      rintro e w' ⟨rfl, rfl⟩
      go_wp2_with fail
      refine ⟨fun _ => (by first | exact HB11 | exact Bl.refl _), ?_⟩
      iterate 1
       apply Flow.asg _ rfl
       · intro K' hK'
         simp only [sqA, Act.eval, arr_getD, List.getD_cons_zero, List.getD_cons_succ]
         exact hK'
      refine Flow.done ?_
      go_wp2_with fail
      go_meet
      case rel => exact ⟨rfl, hb2.alloc _⟩
    · have hf : firstNZ [whenI (!nameB nm) 5, whenI (!inB sp 1 64) 3, whenI (decide (sp ≤ gap)) 7, whenI ((ls.length : Int) == 0) 9, whenI (decide (200 < (ls.length : Int))) 4] = E0 := by
       rw [HE0.out]; unfold fontHead rangeB; rw [h1, h2]; rw [len0, len200]; rfl
      refine wp_region_flow [(true, 0), (true, 1), (true, 5), (true, 6), (true, 22), (true, 23), (true, 24), (true, 25), (true, 26), (true, 28), (true, 29), (true, 30), (true, 31), (true, 33), (true, 34), (true, 35), (true, 36), (false, 2), (true, 3), (false, 4), (false, 7), (true, 8), (true, 9), (true, 10), (true, 11), (false, 12), (true, 13), (true, 14), (true, 15), (true, 16), (true, 17), (false, 18), (true, 19), (true, 20), (false, 21), (false, 27), (false, 32), (false, 37), (false, 38), (false, 39), (true, 40)] (fun _ => false) (by kernel_rfl) (by kernel_rfl) (by kernel_rfl) (by kernel_rfl) ?_
      iterate 17
       apply Flow.calm2 _ _ rfl rfl
       · intro w' hb' K' hK'
         obtain ⟨hc', hf'⟩ := hb'.rule
         go_simp
         try go_ints
         exact hK'
       · intro K' hK'
         simp only [sqA]
         exact hK'
      apply Flow.move rfl
      go_wp2_with fail
      refine (HNm.out _).mono ?_
      rintro e w2 ⟨rfl, HB1⟩
      have hb2 : Bl w1 w2 := Bl.ofDrew HB1
      have k2 := (w11.bl hb2).all5
      go_wp2_with fail
      refine ⟨fun _ => (by first | exact HB1 | exact Bl.refl _), ?_⟩
      iterate 1
       apply Flow.calm2 _ _ rfl rfl
       · intro w' hb' K' hK'
         obtain ⟨hc', hf'⟩ := hb'.rule
         go_simp
         try go_ints
         exact hK'
       · intro K' hK'
         simp only [sqA]
         exact hK'
      apply Flow.move rfl
      go_wp2_with fail
      refine (when_any _ _ _).mono ?_
      rintro e w' ⟨rfl, rfl⟩
      go_wp2_with fail
      refine ⟨fun _ => (by first | exact HB2 | exact Bl.refl _), ?_⟩
      apply Flow.move rfl
      go_wp2_with fail
      refine (in_any _ _ _ _).mono ?_
      rintro e w' ⟨rfl, rfl⟩
      go_wp2_with fail
      refine ⟨fun _ => (by first | exact HB3 | exact Bl.refl _), ?_⟩
      iterate 1
       apply Flow.calm2 _ _ rfl rfl
       · intro w' hb' K' hK'
         obtain ⟨hc', hf'⟩ := hb'.rule
         go_simp
         try go_ints
         exact hK'
       · intro K' hK'
         simp only [sqA]
         exact hK'
      iterate 1
       apply Flow.mv _ rfl
       · intro K' hK'
         simp only [sqA, Act.eval, arr_getD, List.getD_cons_zero, List.getD_cons_succ]
         exact hK'
      iterate 2
       first
        | (apply Flow.pass rfl (by rfl))
        | (apply Flow.calmG _ rfl (by rfl)
           · intro w' hb'
             obtain ⟨hc', hf'⟩ := hb'.rule
             go_simp
             all_goals (try rfl))
       simp only [sqA]
       try go_ints
      -- a guarded mover
      apply Flow.move rfl
      go_wp2_with fail
      refine (in_any _ _ _ _).mono ?_
      rintro e w' ⟨rfl, rfl⟩
      go_wp2_with fail
      refine ⟨fun _ => (by first | exact HB4 | exact Bl.refl _), ?_⟩
      first
       | (apply Flow.pass rfl (by rfl))
       | (apply Flow.calmG _ rfl (by rfl)
          · intro w' hb'
            obtain ⟨hc', hf'⟩ := hb'.rule
            go_simp
            all_goals (try rfl))
      simp only [sqA]
      try go_ints
      iterate 1
       apply Flow.calm2 _ _ rfl rfl
       · intro w' hb' K' hK'
         obtain ⟨hc', hf'⟩ := hb'.rule
         go_simp
         try go_ints
         exact hK'
       · intro K' hK'
         simp only [sqA]
         exact hK'
      iterate 1
       apply Flow.mv _ rfl
       · intro K' hK'
         simp only [sqA, Act.eval, arr_getD, List.getD_cons_zero, List.getD_cons_succ]
         exact hK'
      iterate 2
       first
        | (apply Flow.pass rfl (by rfl))
        | (apply Flow.calmG _ rfl (by rfl)
           · intro w' hb'
             obtain ⟨hc', hf'⟩ := hb'.rule
             go_simp
             all_goals (try rfl))
       simp only [sqA]
       try go_ints
      -- a guarded mover
      apply Flow.move rfl
      go_wp2_with fail
      refine (in_any _ _ _ _).mono ?_
      rintro e w' ⟨rfl, rfl⟩
      go_wp2_with fail
      refine ⟨fun _ => (by first | exact HB5 | exact Bl.refl _), ?_⟩
      first
       | (apply Flow.pass rfl (by rfl))
       | (apply Flow.calmG _ rfl (by rfl)
          · intro w' hb'
            obtain ⟨hc', hf'⟩ := hb'.rule
            go_simp
            all_goals (try rfl))
      simp only [sqA]
      try go_ints
      iterate 1
       apply Flow.calm2 _ _ rfl rfl
       · intro w' hb' K' hK'
         obtain ⟨hc', hf'⟩ := hb'.rule
         go_simp
         try go_ints
         exact hK'
       · intro K' hK'
         simp only [sqA]
         exact hK'
      apply Flow.move rfl
      go_wp2_with fail
      refine (when_any _ _ _).mono ?_
      rintro e w' ⟨rfl, rfl⟩
      go_wp2_with fail
      refine ⟨fun _ => (by first | exact HB6 | exact Bl.refl _), ?_⟩
      apply Flow.move rfl
      go_wp2_with fail
      refine (when_any _ _ _).mono ?_
      rintro e w' ⟨rfl, rfl⟩
      go_wp2_with fail
      refine ⟨fun _ => (by first | exact HB7 | exact Bl.refl _), ?_⟩
      apply Flow.move rfl
      go_wp2_with fail
      refine (when_any _ _ _).mono ?_
      rintro e w' ⟨rfl, rfl⟩
      go_wp2_with fail
      refine ⟨fun _ => (by first | exact HB8 | exact Bl.refl _), ?_⟩
      apply Flow.move rfl
      go_wp2_with fail
      refine (when_any _ _ _).mono ?_
      rintro e w' ⟨rfl, rfl⟩
      go_wp2_with fail
      refine ⟨fun _ => (by first | exact HB9 | exact Bl.refl _), ?_⟩
      apply Flow.move rfl
      go_wp2_with fail
      first | refine ⟨fun _ => ?_, ?_⟩ | refine ⟨?_, ?_⟩
      · repeat' (first | exact Bl.refl _ | refine Bl.drewL ?_ | refine Bl.drew ?_ | refine Bl.alloc ?_ _)
      apply Flow.move rfl
      go_wp2_with fail
      refine (first5_any _ _ _ _ _ _ _ (Blk.new _ _ _)).mono ?_
      rintro e w' ⟨rfl, rfl⟩
      go_wp2_with fail
      refine ⟨fun _ => (by first | exact HB11 | exact Bl.refl _), ?_⟩
      iterate 1
       apply Flow.asg _ rfl
       · intro K' hK'
         simp only [sqA, Act.eval, arr_getD, List.getD_cons_zero, List.getD_cons_succ]
         exact hK'
      refine Flow.done ?_
      go_wp2_with fail
      go_meet
      case rel => exact ⟨rfl, hb2.alloc _⟩
 case rest =>
  rename World => wc
  obtain ⟨rfl, hbc⟩ := hcut
  have k5 := (w11.bl hbc).all5
  clear k1
  by_cases hz : E0 = 0
  case neg =>
   have hq : (E0 == 0) = false := by simp [hz]
   have HX := Lib.hid (show fontErr (nameB nm) ht gap sp ls = E0 by unfold fontErr; rw [← HE0.out, if_neg hz])
   clear hz
   go_wp2_with fail
   go_ret
   exact ⟨by rw [HX.out]; rfl, w1b.trans hbc⟩
  case pos =>
   subst hz
   have HX := Lib.hid (show fontErr (nameB nm) ht gap sp ls = ltrsErr ht [] ls by unfold fontErr; rw [← HE0.out, if_pos rfl])
   clear HE0
   go_wp2_with fail
   go_loopw [54] (fun u wr => ∃ i : Nat, i ≤ ls.length ∧ u = .int .i64 i ∧ Bl w1 wr ∧ ltrsErr ht ((ls.take i).map Ltr.text) (ls.drop i) = ltrsErr ht [] ls) (fun u _ => ls.length - (RowKit.intOf u).toNat)
   case atStart => exact ⟨0, Nat.zero_le _, rfl, hbc, by simp⟩
   case round =>
    obtain ⟨i, hi, rfl, hbr, hrs⟩ := hrel
    clear k5
    have HRs := Lib.hid hrs
    have k5 := (w11.bl hbr).all5
    clear hrs
    by_cases hlt : i < ls.length
    · have hg : ls[i]? = some ls[i] := List.getElem?_eq_getElem hlt
      obtain ⟨l, hl⟩ : ∃ l, l = ls[i] := ⟨_, rfl⟩
      rw [← hl] at hg
      obtain ⟨ad, rfl, k1, k2, k3, k4⟩ := (HL.out.bl hbr).at_ hg
      have HA := Lib.hid (((HL.out.bl hbr).2 l (List.mem_of_getElem? hg)))
      have HG := Lib.hid hg
      clear hg hl
      go_upto_region 7 with fail
      obtain ⟨w5, hw5⟩ : ∃ x, x = wr.alloc (.cells #[.string ⟨l.text.toArray⟩, .int .i64 l.W, .int .i64 l.H, .slice l.A l.m l.c] 88) := ⟨_, rfl⟩
      have b5 : Blk w5 wr.heap.size 88 #[.string ⟨l.text.toArray⟩, .int .i64 l.W, .int .i64 l.H, .slice l.A l.m l.c] := by rw [hw5]; exact Blk.new _ _ _
      have hb5 : Bl w1 w5 := by rw [hw5]; exact hbr.alloc _
      rw [← hw5]
      have k5 := (w11.bl hb5).all5
      have k6 := b5.all4
      have htx := HA.out.2
      have hcon := letter_twice (some ad) c ls i (by omega) wr.heap.size l w5 (HL.out.bl hb5) b5 hn
      obtain ⟨pv, hpv⟩ : ∃ x, x = (ls.take i).map Ltr.text := ⟨_, rfl⟩
      have hrs := HRs.out
      have hfr := ltrsErr_from (ht := ht) HG.out
      rw [← hpv] at hcon hrs hfr
      have HRs := Lib.hid hrs; have HF := Lib.hid hfr
      clear hrs hfr hpv
      obtain ⟨E1, hE1⟩ : ∃ E, E = ltrE1 pv l := ⟨_, rfl⟩
      have hf1 : firstNZ [whenI (!textB l.text) 2, whenI (decide (l.text ∈ pv)) 6, pageErr l.W l.H l.m] = E1 := by rw [hE1]; rfl
      have HE1 := Lib.hid hE1; have Hcon := Lib.hid hcon; have B5 := Lib.hid b5; have Hw5 := Lib.hid hb5
      have hic : i ≤ c := by omega
      clear hw5 hE1 k1 k2 k3 k4 hcon b5 hb5
      refine wp_region_flow [(true, 0), (true, 1), (true, 5), (true, 6), (true, 7), (true, 8), (true, 9), (true, 12), (true, 13), (false, 2), (true, 3), (false, 4), (false, 10), (false, 11), (false, 14), (false, 15), (false, 16), (true, 17)] (fun _ => false) (by kernel_rfl) (by kernel_rfl) (by kernel_rfl) (by kernel_rfl) ?_
      iterate 4
       apply Flow.calm2 _ _ rfl rfl
       · intro w' hb' K' hK'
         obtain ⟨hc', hf'⟩ := hb'.rule
         go_simp
         try go_ints
         exact hK'
       · intro K' hK'
         simp only [sqA]
         exact hK'
      iterate 1
       apply Flow.mv _ rfl
       · intro K' hK'
         simp only [sqA, Act.eval, arr_getD, List.getD_cons_zero, List.getD_cons_succ]
         exact hK'
      iterate 4
       apply Flow.calm2 _ _ rfl rfl
       · intro w' hb' K' hK'
         obtain ⟨hc', hf'⟩ := hb'.rule
         go_simp
         try go_ints
         exact hK'
       · intro K' hK'
         simp only [sqA]
         exact hK'
      apply Flow.move rfl
      go_wp2_with fail
      refine (letterText_any _ _ htx).mono ?_
      rintro e w' ⟨rfl, rfl⟩
      go_wp2_with fail
      refine ⟨fun _ => (by first | exact HB1 | exact Bl.refl _), ?_⟩
      iterate 1
       apply Flow.calm2 _ _ rfl rfl
       · intro w' hb' K' hK'
         obtain ⟨hc', hf'⟩ := hb'.rule
         go_simp
         try go_ints
         exact hK'
       · intro K' hK'
         simp only [sqA]
         exact hK'
      apply Flow.move rfl
      go_wp2_with fail
      refine (when_any _ _ _).mono ?_
      rintro e w' ⟨rfl, rfl⟩
      go_wp2_with fail
      refine ⟨fun _ => (by first | exact HB2 | exact Bl.refl _), ?_⟩
      apply Flow.move rfl
      go_wp2_with fail
      refine (Hcon.out _ ((Bl.refl _).drew)).mono ?_
      rintro e w6 ⟨rfl, HB3⟩
      go_wp2_with fail
      refine ⟨fun _ => (by first | exact HB3 | exact Bl.refl _), ?_⟩
      apply Flow.move rfl
      go_wp2_with fail
      refine (when_any _ _ _).mono ?_
      rintro e w' ⟨rfl, rfl⟩
      go_wp2_with fail
      refine ⟨fun _ => (by first | exact HB4 | exact Bl.refl _), ?_⟩
      apply Flow.move rfl
      go_wp2_with fail
      refine (bitsError_any _ _ _ _ _ _).mono ?_
      rintro e w7 ⟨rfl, HB5⟩
      go_wp2_with fail
      refine ⟨fun _ => (by first | exact HB5 | exact Bl.refl _), ?_⟩
      apply Flow.move rfl
      go_wp2_with fail
      first | refine ⟨fun _ => ?_, ?_⟩ | refine ⟨?_, ?_⟩
      · repeat' (first | exact Bl.refl _ | refine Bl.drewL ?_ | refine Bl.drew ?_ | refine Bl.alloc ?_ _)
      apply Flow.move rfl
      go_wp2_with fail
      refine (first3_any _ _ _ _ _ (Blk.new _ _ _)).mono ?_
      rintro e w' ⟨rfl, rfl⟩
      go_wp2_with fail
      refine ⟨fun _ => (by first | exact HB7 | exact Bl.refl _), ?_⟩
      iterate 1
       apply Flow.asg _ rfl
       · intro K' hK'
         simp only [sqA, Act.eval, arr_getD, List.getD_cons_zero, List.getD_cons_succ]
         exact hK'
      refine Flow.done ?_
      have hb8 : Bl w5 (w7.alloc (.cells #[.int .i64 (whenI (!textB l.text) 2), .int .i64 (whenI (decide (l.text ∈ pv)) 6), .int .i64 (pageErr l.W l.H l.m)] 31)) := ((Bl.ofDrew HB3).trans HB5).alloc _
      clear HB3 HB5
      obtain ⟨w8, hw8⟩ : ∃ x, x = w7.alloc (.cells #[.int .i64 (whenI (!textB l.text) 2), .int .i64 (whenI (decide (l.text ∈ pv)) 6), .int .i64 (pageErr l.W l.H l.m)] 31) := ⟨_, rfl⟩
      rw [← hw8] at hb8 ⊢
      have HB8 := Lib.hid (Hw5.out.trans hb8)
      have k5 := (w11.bl HB8.out).all5
      have b8 := B5.out.bl hb8
      have k6 := b8.all4
      clear hw8 hb8 hf1
      by_cases hz : E1 = 0
      case neg =>
       have hq : (E1 == 0) = false := by simp [hz]
       have HY := Lib.hid (show ltrsErr ht [] ls = E1 by rw [← HRs.out, HF.out, ltrErr_parts, ← HE1.out, if_neg hz, if_neg hz])
       clear hz
       go_wp2_with fail
       go_ret
       exact ⟨by rw [HX.out, HY.out]; rfl, w1b.trans HB8.out⟩
      case pos =>
       subst hz
       have HP := Lib.hid (ltrE1_zero HE1.out.symm)
       have hbare := letter_bare l w8 ((HL.out.bl HB8.out).2 l (List.mem_of_getElem? HG.out)).1 HP.out
       have Hbare := Lib.hid hbare
       obtain ⟨E2, hE2⟩ : ∃ E, E = ltrE2 ht l := ⟨_, rfl⟩
       have hf2 : firstNZ [whenI (l.H != ht) 11, whenI (decide (64 < l.W)) 4, whenI (bareB l.bs l.W.toNat l.H.toNat) 2] = E2 := by rw [hE2]; rfl
       have HE2 := Lib.hid hE2
       clear hE2 hbare
       go_upto_region 10 with fail
       refine wp_region_flow [(true, 0), (true, 1), (true, 2), (true, 3), (true, 4), (true, 5), (true, 7), (true, 8), (true, 9), (true, 10), (true, 12), (true, 13), (false, 6), (false, 11), (false, 14), (false, 15), (false, 16), (false, 17), (false, 18), (true, 19)] (fun _ => false) (by kernel_rfl) (by kernel_rfl) (by kernel_rfl) (by kernel_rfl) ?_
       iterate 12
        apply Flow.calm2 _ _ rfl rfl
        · intro w' hb' K' hK'
          obtain ⟨hc', hf'⟩ := hb'.rule
          go_simp
          try go_ints
          exact hK'
        · intro K' hK'
          simp only [sqA]
          exact hK'
       apply Flow.move rfl
       go_wp2_with fail
       refine (when_any _ _ _).mono ?_
       rintro e w' ⟨rfl, rfl⟩
       go_wp2_with fail
       refine ⟨fun _ => (by first | exact HB1 | exact Bl.refl _), ?_⟩
       apply Flow.move rfl
       go_wp2_with fail
       refine (when_any _ _ _).mono ?_
       rintro e w' ⟨rfl, rfl⟩
       go_wp2_with fail
       refine ⟨fun _ => (by first | exact HB2 | exact Bl.refl _), ?_⟩
       apply Flow.move rfl
       go_wp2_with fail
       refine (Hbare.out _ ((Bl.refl _).drew)).mono ?_
       rintro e w9 ⟨P, n, d, rfl, HB3, hcon⟩
       go_wp2_with fail
       refine ⟨fun _ => (by first | exact HB3 | exact Bl.refl _), ?_⟩
       apply Flow.move rfl
       go_wp2_with fail
       refine (hcon _ (Bl.refl _)).mono ?_
       rintro e w' ⟨rfl, rfl⟩
       go_wp2_with fail
       refine ⟨fun _ => (by first | exact HB4 | exact Bl.refl _), ?_⟩
       apply Flow.move rfl
       go_wp2_with fail
       refine (when_any _ _ _).mono ?_
       rintro e w' ⟨rfl, rfl⟩
       go_wp2_with fail
       refine ⟨fun _ => (by first | exact HB5 | exact Bl.refl _), ?_⟩
       apply Flow.move rfl
       go_wp2_with fail
       first | refine ⟨fun _ => ?_, ?_⟩ | refine ⟨?_, ?_⟩
       · repeat' (first | exact Bl.refl _ | refine Bl.drewL ?_ | refine Bl.drew ?_ | refine Bl.alloc ?_ _)
       apply Flow.move rfl
       go_wp2_with fail
       refine (first3_any _ _ _ _ _ (Blk.new _ _ _)).mono ?_
       rintro e w' ⟨rfl, rfl⟩
       go_wp2_with fail
       refine ⟨fun _ => (by first | exact HB7 | exact Bl.refl _), ?_⟩
       iterate 1
        apply Flow.asg _ rfl
        · intro K' hK'
          simp only [sqA, Act.eval, arr_getD, List.getD_cons_zero, List.getD_cons_succ]
          exact hK'
       refine Flow.done ?_
       have hb10 : Bl w8 (w9.alloc (.cells #[.int .i64 (whenI (l.H != ht) 11), .int .i64 (whenI (decide (64 < l.W)) 4), .int .i64 (whenI (bareB l.bs l.W.toNat l.H.toNat) 2)] 31)) := (Bl.ofDrew HB3).alloc _
       have HB10 := Lib.hid (HB8.out.trans hb10)
       clear hf2 hb10 HB3 hcon k5 k6
       by_cases hz : E2 = 0
       case neg =>
        have hq : (E2 == 0) = false := by simp [hz]
        have HY := Lib.hid (show ltrsErr ht [] ls = E2 by rw [← HRs.out, HF.out, ltrErr_parts, ← HE1.out, if_pos rfl, ← HE2.out, if_neg hz])
        clear hz
        go_wp2_with fail
        go_ret
        exact ⟨by rw [HX.out, HY.out]; rfl, w1b.trans HB10.out⟩
       case pos =>
        subst hz
        have HY := Lib.hid (show ltrsErr ht ((ls.take (i + 1)).map Ltr.text) (ls.drop (i + 1)) = ltrsErr ht [] ls by rw [← HRs.out, HF.out, ltrErr_parts, ← HE1.out, if_pos rfl, ← HE2.out, if_pos rfl])
        go_wp2_with fail
        exact ⟨⟨i + 1, hlt, by go_num, HB10.out, HY.out⟩, by simp [RowKit.intOf]; omega⟩
    · obtain rfl : i = ls.length := by omega
      have HY := Lib.hid (show ltrsErr ht [] ls = 0 by rw [← HRs.out, List.drop_length]; rfl)
      go_wp2_with fail
      go_ret
      exact ⟨by rw [HX.out, HY.out]; rfl, w1b.trans hbr⟩

end Go.Proofs.YthobmednnocklaaGreatDoor


/-! A map of the call's own as a list of what was put in, the newest first; keys of any kind that the model compares without drawing. -/
namespace Go.Proofs.YthobmednnocklaaGreatDoor
open Go.RowKit

structure KeyKind (P : Program) (kt : TypeId) {α : Type} (K : α → Value) : Prop where
 find : ∀ (w : World) (k : α) (l : List MapEntry), (∀ x ∈ l, ∃ a, x.key = K a) → (∃ j e, (Instr.findKey kt (K k) l).run P w = .ok (some (j, e.val)) w ∧ l[j]? = some e ∧ e.key = K k) ∨ ((Instr.findKey kt (K k) l).run P w = .ok none w ∧ ∀ x ∈ l, x.key ≠ K k)
 check : ∀ (w : World) (e : Bool) (k : α), (Instr.checkKey e 10000 kt (K k)).run P w = .ok () w
 stays : ∀ (w : World) (k : α), (Instr.keyThatStays (K k) (K k)).run P w = .ok (K k) w
 inj : ∀ a b, K a = K b → a = b
theorem nodup_at {α : Type} {l : List α} (h : l.Nodup) {i j : Nat} {x : α} (hi : l[i]? = some x) (hj : l[j]? = some x) : i = j := by
 have aux : ∀ {i j : Nat}, l[i]? = some x → l[j]? = some x → ¬ i < j := fun {i j} hi hj hlt => by
  obtain ⟨h1, e1⟩ := List.getElem?_eq_some_iff.1 hi
  obtain ⟨h2, e2⟩ := List.getElem?_eq_some_iff.1 hj
  exact List.pairwise_iff_getElem.1 h i j h1 h2 hlt (e1.trans e2.symm)
 have a := aux hi hj
 have b := aux hj hi
 omega
section
variable {P : Program} {kt et T : TypeId} {α β : Type} [BEq α] {K : α → Value} {V : β → Value}

def MapL (K : α → Value) (V : β → Value) (w : World) (b : Nat) (l : List (α × β)) : Prop :=
 ∃ es clock, w.heap[b]? = some (.map es clock) ∧ (es.toList.map (·.key)).Nodup ∧ (∀ x ∈ es.toList, ∃ a v, x.key = K a ∧ x.val = V v ∧ l.lookup a = some v) ∧ ∀ a v, l.lookup a = some v → ∃ x ∈ es.toList, x.key = K a
theorem MapL.new (w : World) : MapL K V (w.alloc (.map #[] 0)) w.heap.size [] := ⟨#[], 0, (MapKept.heap_alloc w _).1, by simp, by simp, fun a v h => by simp at h⟩
theorem MapL.bl {w w' : World} {b : Nat} {l : List (α × β)} (h : MapL K V w b l) (hb : Bl w w') : MapL K V w' b l := by
 obtain ⟨es, c, h1, h2⟩ := h
 exact ⟨es, c, (Below.block hb b (Array.getElem?_eq_some_iff.1 h1).1).trans h1, h2⟩
theorem MapL.drew {w : World} {b : Nat} {l : List (α × β)} (h : MapL K V w b l) : MapL K V w.drew b l := h
theorem MapL.lt {w : World} {b : Nat} {l : List (α × β)} (h : MapL K V w b l) : b < w.heap.size := by
 obtain ⟨es, c, h1, _⟩ := h
 exact (Array.getElem?_eq_some_iff.1 h1).1
theorem MapL.block {w : World} {b : Nat} {l : List (α × β)} (h : MapL K V w b l) : ∃ es clock, w.heap[b]? = some (.map es clock) := by
 obtain ⟨es, c, h1, _⟩ := h
 exact ⟨es, c, h1⟩
theorem MapL.other {w w' : World} {b : Nat} {l : List (α × β)} (h : MapL K V w b l) (hb : w'.heap[b]? = w.heap[b]?) : MapL K V w' b l := by
 obtain ⟨es, c, h1, h2⟩ := h
 exact ⟨es, c, hb.trans h1, h2⟩
theorem MapL.found {w : World} {b : Nat} {l : List (α × β)} (kk : KeyKind P kt K) (h : MapL K V w b l) (a : α) : ∃ es clock, w.heap[b]? = some (.map es clock) ∧ ((∃ j v, (Instr.findKey kt (K a) es.toList).run P w = .ok (some (j, V v)) w ∧ l.lookup a = some v) ∨ ((Instr.findKey kt (K a) es.toList).run P w = .ok none w ∧ l.lookup a = none)) := by
 obtain ⟨es, c, h1, hn, h2, h3⟩ := h
 refine ⟨es, c, h1, ?_⟩
 rcases kk.find w a es.toList (fun x hx => by obtain ⟨a', _, e, _⟩ := h2 x hx; exact ⟨a', e⟩) with ⟨j, e, hr, hj, he⟩ | ⟨hr, hno⟩
 · obtain ⟨a', v, e1, e2, e3⟩ := h2 e (List.mem_of_getElem? hj)
   obtain rfl := kk.inj _ _ (he.symm.trans e1)
   rw [e2] at hr
   exact .inl ⟨j, v, hr, e3⟩
 · refine .inr ⟨hr, ?_⟩
   cases hl : l.lookup a with
   | none => rfl
   | some v =>
    obtain ⟨x, hx, e⟩ := h3 a v hl
    exact absurd e (hno x hx)
theorem bl_heapSet {w0 w : World} (h : Bl w0 w) {b : Nat} (hb : w0.heap.size ≤ b) (o : Obj) : Bl w0 { w with heap := w.heap.setIfInBounds b o } := by
 refine ⟨h.os, h.tape, h.output, ?_, fun k hk => ?_⟩
 · have := Below.size h
   simpa using this
 · show (w.heap.setIfInBounds b o)[k]? = _
   rw [Array.getElem?_setIfInBounds_ne (by omega)]
   exact Below.block h k hk
/-- Only the map's block is another one. -/
def OnlyAt (b : Nat) (w w' : World) : Prop := (∀ j, j ≠ b → w'.heap[j]? = w.heap[j]?) ∧ w'.heap.size = w.heap.size ∧ ∀ w0, Bl w0 w → w0.heap.size ≤ b → Bl w0 w'
theorem onlyAt_set (b : Nat) (w : World) (o : Obj) : OnlyAt b w { w with heap := w.heap.setIfInBounds b o } :=
 ⟨fun j hj => Array.getElem?_setIfInBounds_ne (fun e => hj e.symm), by simp, fun w0 h0 hb => bl_heapSet h0 hb _⟩
variable [LawfulBEq α]
theorem MapL.update {w : World} {b : Nat} {l : List (α × β)} (kk : KeyKind P kt K) (ht : P.underlying T = some (.map kt et)) (h : MapL K V w b l) (a : α) (v : β) :
 ∃ w', (Instr.mapUpdate T (.map (some b)) (K a) (V v)).run P w = .ok () w' ∧ MapL K V w' b ((a, v) :: l) ∧ OnlyAt b w w' := by
 obtain ⟨es, c, h1, hn, h2, h3⟩ := h
 have self : (((a, v) :: l : List (α × β))).lookup a = some v := by simp [List.lookup]
 have oth : ∀ a', a' ≠ a → ((a, v) :: l : List (α × β)).lookup a' = l.lookup a' := fun a' hne => by
  have hb : (a' == a) = false := by simpa using hne
  simp only [List.lookup, hb]
 rcases kk.find w a es.toList (fun x hx => by obtain ⟨a', _, e, _⟩ := h2 x hx; exact ⟨a', e⟩) with ⟨j, e, hr, hj, he⟩ | ⟨hr, hno⟩
 · have hj' : es[j]? = some e := by simpa using hj
   have hkey := MapKept.modify_keys (es := es) j (fun e' => { e' with key := K a, val := V v }) (fun e' he' => by rw [hj'] at he'; cases he'; exact he.symm)
   refine ⟨{ w with heap := w.heap.setIfInBounds b (.map (es.modify j (fun e' => { e' with key := K a, val := V v })) c) }, ?_, ⟨_, _, (MapKept.heap_set h1).1, by rw [hkey]; exact hn, ?_, ?_⟩, onlyAt_set _ _ _⟩
   · simp [Instr.mapUpdate, run_underlying ht, MapKept.run_getObj_map h1, kk.check, hr, hj', he, kk.stays, MapKept.run_setObj_map _ h1, Result.andThen]
   · intro x hx
     obtain ⟨i, hi, hx'⟩ := List.getElem_of_mem hx
     have hxi : (es.modify j (fun e' => { e' with key := K a, val := V v }))[i]? = some x := by
      rw [← Array.getElem?_toList, List.getElem?_eq_getElem hi, hx']
     rw [Array.getElem?_modify] at hxi
     by_cases hij : j = i
     · subst hij
       rw [if_pos rfl, hj'] at hxi
       simp only [Option.map_some, Option.some.injEq] at hxi
       subst hxi
       exact ⟨a, v, rfl, rfl, self⟩
     · rw [if_neg hij] at hxi
       have hxl : es.toList[i]? = some x := by rw [Array.getElem?_toList]; exact hxi
       obtain ⟨a', v', e1, e2, e3⟩ := h2 x (List.mem_of_getElem? hxl)
       have hne : a' ≠ a := fun ea => by
        subst ea
        have k1 : (es.toList.map (·.key))[i]? = some (K a') := by rw [List.getElem?_map, hxl, Option.map_some, e1]
        have k2 : (es.toList.map (·.key))[j]? = some (K a') := by rw [List.getElem?_map, hj, Option.map_some, he]
        exact hij (nodup_at hn k1 k2).symm
       exact ⟨a', v', e1, e2, (oth a' hne).trans e3⟩
   · intro a' v' hl
     have hm : K a' ∈ es.toList.map (·.key) := by
      by_cases hne : a' = a
      · subst hne
        exact List.mem_map.2 ⟨e, List.mem_of_getElem? hj, he⟩
      · rw [oth a' hne] at hl
        obtain ⟨x, hx, ex⟩ := h3 a' v' hl
        exact List.mem_map.2 ⟨x, hx, ex⟩
     rw [← hkey] at hm
     exact List.mem_map.1 hm
 · refine ⟨{ w with heap := w.heap.setIfInBounds b (.map (es.push ⟨K a, V v, c⟩) (c + 1)) }, ?_, ⟨_, _, (MapKept.heap_set h1).1, ?_, ?_, ?_⟩, onlyAt_set _ _ _⟩
   · simp [Instr.mapUpdate, run_underlying ht, MapKept.run_getObj_map h1, kk.check, hr, MapKept.run_setObj_map _ h1, Result.andThen]
   · simp only [Array.toList_push, List.map_append, List.map_cons, List.map_nil]
     refine List.nodup_append.2 ⟨hn, by simp, ?_⟩
     intro y hy z hz
     simp only [List.mem_singleton] at hz
     subst hz
     obtain ⟨x, hx, rfl⟩ := List.mem_map.1 hy
     exact hno x hx
   · intro x hx
     simp only [Array.toList_push, List.mem_append, List.mem_singleton] at hx
     rcases hx with hx | rfl
     · obtain ⟨a', v', e1, e2, e3⟩ := h2 x hx
       have hne : a' ≠ a := fun ea => by subst ea; exact hno x hx e1
       exact ⟨a', v', e1, e2, (oth a' hne).trans e3⟩
     · exact ⟨a, v, rfl, rfl, self⟩
   · intro a' v' hl
     by_cases hne : a' = a
     · subst hne
       exact ⟨⟨K a', V v, c⟩, by simp, rfl⟩
     · rw [oth a' hne] at hl
       obtain ⟨x, hx, ex⟩ := h3 a' v' hl
       exact ⟨x, by simp [hx], ex⟩
end

end Go.Proofs.YthobmednnocklaaGreatDoor


/-! strings.Builder at this program: copyCheck, WriteByte, String. -/
namespace Go.Proofs
open Go.Shelf
def Tryz.lays169_ren : Go.Shelf.Ren := ⟨fun | 169 => 114 | n => n, fun | 70 => 192 | 9 => 9 | 0 => 0 | 72 => 195 | 37 => 193 | 127 => 294 | 3 => 3 | 5 => 5 | n => n, fun | n => n⟩
theorem Tryz.lays169 : Go.Proofs.Lays.n169 Tryz.prog Tryz.lays169_ren := {
 mixed := by kernel_rfl
 f169 := Tryz.func114.trans (congrArg some (by kernel_rfl))
 t0 := Tryz.underlying0
 a0 := Tryz.isAgg0
 z0 := Tryz.sizeOf0
 v0 := Tryz.zeroValue0
 t3 := Tryz.underlying3
 a3 := Tryz.isAgg3
 z3 := Tryz.sizeOf3
 v3 := Tryz.zeroValue3
 t9 := Tryz.underlying9
 a9 := Tryz.isAgg9
 z9 := Tryz.sizeOf9
 v9 := Tryz.zeroValue9
 t37 := Tryz.underlying193
 a37 := Tryz.isAgg193
 z37 := Tryz.sizeOf193
 v37 := Tryz.zeroValue193
 t70 := Tryz.underlying192
 a70 := Tryz.isAgg192
 z70 := Tryz.sizeOf192
 v70 := Tryz.zeroValue192
 t72 := Tryz.underlying195
 a72 := Tryz.isAgg195
 z72 := Tryz.sizeOf195
 v72 := Tryz.zeroValue195
 t127 := Tryz.underlying294
 a127 := Tryz.isAgg294
 z127 := Tryz.sizeOf294
 v127 := Tryz.zeroValue294 }

theorem Tryz.builderExtra : Builder.Extra Tryz.prog Tryz.lays169_ren where
 sizeBuilder := by kernel_rfl
 liesBuilder := by kernel_rfl
 t5 := Tryz.underlying5
 a5 := Tryz.isAgg5
 z5 := Tryz.sizeOf5
 v5 := Tryz.zeroValue5
 infoByte := by kernel_rfl
 cellsByte := by kernel_rfl
 sizeByte := by kernel_rfl
 neB5 := by decide
end Go.Proofs
namespace Go.Proofs.YthobmednnocklaaGreatDoor
open Go.RowKit Go.Shelf

theorem builder_size : (Tryz.prog.info? 195).map (·.size) = some 2 := by kernel_rfl
theorem builder_lies : liesAt Tryz.prog Tryz.prog.depth 195 (2 / Tryz.prog.cellsOf 195) 0 195 1 = true := by kernel_rfl

set_option maxHeartbeats 1000000 in
set_option maxRecDepth 100000 in
theorem check_used (b : Nat) (w : World) (h0 : w.cell? ⟨b, 0, none⟩ = some (.pointer (some ⟨b, 0, none⟩))) :
 Calls Tryz.prog 197 #[.pointer (some ⟨b, 0, none⟩)] w fun e w' => e = .returned (.tuple #[]) ∧ w' = w := by
 obtain ⟨j, hj, _⟩ := Option.map_eq_some_iff.1 builder_size
 go_enter Tryz.func197, Tryz.ntmps197
 go_wp2
 rw [Lib.run_neq_ptr_same w _ Tryz.underlying192 hj]
 go_wp2
 go_end0
 exact ⟨rfl, rfl⟩

set_option maxHeartbeats 1000000 in
set_option maxRecDepth 100000 in
theorem check_fresh (b : Nat) (w : World) (h0 : w.cell? ⟨b, 0, none⟩ = some (.pointer none)) (hsh : w.shape? b = some (195, 2)) (hfz : w.frozen? ⟨b, 0, none⟩ = false) :
 Calls Tryz.prog 197 #[.pointer (some ⟨b, 0, none⟩)] w fun e w' => e = .returned (.tuple #[]) ∧ w' = w.setCell ⟨b, 0, none⟩ (.pointer (some ⟨b, 0, none⟩)) := by
 obtain ⟨j, hj, hjs⟩ := Option.map_eq_some_iff.1 builder_size
 go_enter Tryz.func197, Tryz.ntmps197
 go_wp2
 rw [Lib.run_to_unsafe w ⟨b, 0, none⟩ Tryz.underlying192 Tryz.underlying350 hj (by rw [hjs]; decide) hsh (Nat.zero_lt_succ 1)]
 simp only [Result.andThen]
 rw [Oper.upon_value]
 go_wp2
 rw [run_callFunc_extern Tryz.func280 (by kernel_rfl) (by kernel_rfl) (by kernel_rfl) (e := Extern.AbiNoEscape.same) (by kernel_rfl)]
 rw [Lib.run_noEscape]
 simp only [Result.andThen]
 rw [Oper.upon_value]
 go_wp2
 rw [Lib.run_from_unsafe w ⟨b, 0, none⟩ Tryz.underlying350 Tryz.underlying192 hj hsh builder_lies]
 simp only [Result.andThen]
 rw [Oper.upon_value]
 go_wp2
 go_end0
 exact ⟨rfl, rfl⟩

/-- The builder that this call has made: it holds the bytes l. -/
abbrev Bui (B : Nat) (l : List UInt8) (w : World) : Prop := Lib.IsBuilderF 195 5 B B (Lib.byteCells l) w
theorem builderCheck_any (B : Nat) (l : List UInt8) (w : World) (h : Bui B l w) :
 Calls Tryz.prog 197 #[.pointer (some ⟨B, 0, none⟩)] w fun e w' => e = .returned (.tuple #[]) ∧ Lib.BuilderAtF 195 5 B B (.pointer (some ⟨B, 0, none⟩)) (Lib.byteCells l) w' ∧ Below B w w' := by
 rcases h with h | h
 · refine (check_fresh B w h.cell0 h.shape h.frozen0).mono ?_
   rintro e w' ⟨rfl, rfl⟩
   exact ⟨rfl, h.used _, (Below.refl B w).setCell (p := ⟨B, 0, none⟩) (Nat.le_refl _) _⟩
 · refine (check_used B w h.cell0).mono ?_
   rintro e w' ⟨rfl, rfl⟩
   exact ⟨rfl, h, Below.refl B _⟩

theorem builderString_any (B : Nat) (l : List UInt8) (w : World) (h : Bui B l w) (hBw : B ≤ w.heap.size) :
 Calls Tryz.prog 114 #[.pointer (some ⟨B, 0, none⟩)] w fun e w' => e = .returned (.string ⟨l.toArray⟩) ∧ Below B w w' := by
 refine (Any.Builder_String_any_k Tryz.lays169 Tryz.builderExtra B B l w h hBw).mono ?_
 rintro e w' ⟨rfl, _, h2, _⟩
 exact ⟨rfl, h2⟩
theorem builder_bl {B : Nat} {l : List UInt8} {w w' : World} (h : Bui B l w) (hb : Bl w w') : Bui B l w' := by
 have own : ∀ {v : Value} {n : Nat}, w.ownsRowF B 5 1 v n (Lib.byteCells l) → w'.ownsRowF B 5 1 v n (Lib.byteCells l) := fun {v n} ho => by
  refine ⟨ho.1, ?_⟩
  rcases ho.2 with h2 | ⟨g, cap, cur, fz, hv, hg, hh, r⟩
  · exact .inl h2
  · exact .inr ⟨g, cap, cur, fz, hv, hg, (Below.block hb g (Array.getElem?_eq_some_iff.1 hh).1).trans hh, r⟩
 have at_ : ∀ {p : Value}, Lib.BuilderAtF 195 5 B B p (Lib.byteCells l) w → Lib.BuilderAtF 195 5 B B p (Lib.byteCells l) w' := fun {p} ⟨hB, v, hh, ho, hne⟩ =>
  ⟨hB, v, (Below.block hb B (Array.getElem?_eq_some_iff.1 hh).1).trans hh, own ho, hne⟩
 exact h.elim (fun x => .inl (at_ x)) (fun x => .inr (at_ x))
theorem Bl.trans' {a w w' : World} {B : Nat} (h : Bl a w) (e : a.heap.size = B) (hb : Below B w w') : Bl a w' := by
 subst e
 exact Below.trans h hb

end Go.Proofs.YthobmednnocklaaGreatDoor
