/- PROVED: LinesAreRead answers true for every input, and leaves the arguments as they were; the listed variables are tied to the program's text. No condition. -/
import Derived.Test.YthobmednnocklaaGreatDoorMClaimLinesAreRead11
import Derived.Test.YthobmednnocklaaGreatDoorMClaimLinesAreRead7
import Derived.Test.YthobmednnocklaaGreatDoorMClaimLinesAreRead4
import Derived.ChangeMaps5
import Derived.Test.YthobmednnocklaaGreatDoorTie
import Derived.Test.YthobmednnocklaaGreatDoorCards
import Derived.Lay
import Derived.LaidOnce
import Derived.SevenTiedAt

namespace Go.Proofs.YthobmednnocklaaGreatDoor
open Go.ChangeShapes Go.WideShapes Go.ChangeAt Go.RowKit Go.Joins

set_option maxRecDepth 100000 in
theorem linesAreRead_lifted (os : Os) (started : os.Started) (H : Type) (enc : TypeId × Value → H) :
 ReturnsInHanded {} Tryz.checked os 3 .any (fun w args => (Rows.linesAreReadSpec.pre enc Tryz.prog Tryz.f3 [] false w args ∧ laidMetH Tryz.prog Rows.linesAreReadRow.laid w) ∧ sizedMet enc Tryz.prog Tryz.f3 (OpenSpec.ofChange Rows.linesAreReadSpec) false w args)
  (Rows.linesAreReadSpec.post enc Tryz.prog Tryz.f3 false true false false) := by
 refine handed_and_shaped (C := Tryz.checked) (X := fun w _ => laidMetH Tryz.prog Rows.linesAreReadRow.laid w) (fun _ _ _ hh h => h.of_heap hh) Tryz.own started (by kernel_rfl) Tryz.func3
  (ChangeSpec.witness_shaped (enc := enc) (C := Tryz.checked) (os := os) (X := fun w _ => laidMetH Tryz.prog Rows.linesAreReadRow.laid w) false (World.laidAll Tryz.prog os Rows.linesAreReadRow.laid) #[.agg #[.int .i64 0, .int .i64 0, .slice none 0 0], .agg #[.int .i64 0, .int .i64 0, .int .i64 0, .int .i64 0], .agg #[.string ⟨#[]⟩, .int .i64 0, .int .i64 0, .int .i64 0, .slice none 0 0], .int .i64 0] 8 (World.laidAll_os _ _ _)
    (World.shaped_of_ZipB (by kernel_rfl) (by kernel_rfl)) (by kernel_rfl) (by kernel_rfl) (by kernel_rfl)
    (by rw [MakeChecks.laidMetH_plain _ _ _ (by kernel_rfl)]; exact laidMet_laidAll _ (by kernel_rfl) (by kernel_rfl))) ?_
 intro W base args ds gs before hval0 hW _ hL hsh
 have hval : ∀ (j : Nat) t v, Tryz.f3.params[j]? = some t → args[j]? = some v → Value.okWide Tryz.prog W .any base t v := hval0
 have hW' := hW
 obtain ⟨p, q, hA, hV, rfl, hfz, hnd⟩ := hW
 have hA : DataW.TrodAll enc Tryz.prog W 0 (fun _ => true) true Tryz.f3.params.toList args.toList ds p := hA
 rw [Tryz.params3] at hA hval
 obtain ⟨v0, vs0, d0, ds0, p0, q0, hargs, rfl, rfl, h0, hA0⟩ := trodAll_cons hA
 obtain ⟨v1, vs1, d1, ds1, p1, q1, rfl, rfl, rfl, h1, hA1⟩ := trodAll_cons hA0
 obtain ⟨v2, vs2, d2, ds2, p2, q2, rfl, rfl, rfl, h2, hA2⟩ := trodAll_cons hA1
 obtain ⟨v3, vs3, d3, ds3, p3, q3, rfl, rfl, rfl, h3, hA3⟩ := trodAll_cons hA2
 obtain ⟨rfl, rfl, rfl⟩ := trodAll_nil hA3
 obtain rfl : args = #[v0, v1, v2, v3] := by cases args; simp_all
 obtain ⟨rfl, rfl⟩ := trodVars_none hV
 obtain ⟨W0, H0, A0, n0, c0, z0, rfl, hl0, hr0, hm0, wW0, wH0⟩ := open_bits (hval 0 24 v0 rfl rfl) h0
 obtain ⟨a1, b1, c1, d1', rfl, wa1, wb1, wc1, wd1⟩ := open_box (hval 1 26 v1 rfl rfl) h1
 obtain ⟨nm2, ht2, gp2, sp2, L2, c2, ls2, rfl, hL2, hnm2, hn2, hc2⟩ := open_font (hval 2 29 v2 rfl rfl) h2
 obtain ⟨r3, rfl, rfl, rfl, wr3⟩ := open_int Tryz.underlying3 (hval 3 3 v3 rfl rfl) h3
 refine (lawLinesRead_any W0 H0 A0 n0 c0 z0 a1 b1 c1 d1' nm2 ht2 gp2 sp2 L2 c2 ls2 r3 W hL2 hnm2 hn2 hc2 hr0).mono fun e W' ⟨he, hb⟩ => ?_
 subst he
 exact ⟨_, rfl, law_post Tryz.laidOut Tryz.underlying4 rfl rfl (by rw [Tryz.params3]; intro t ht; simp at ht; rcases ht with rfl | rfl | rfl | rfl <;> exact ⟨by kernel_rfl, of_decide_eq_true (by kernel_rfl)⟩) hW' rfl rfl rfl hb⟩

set_option maxRecDepth 100000 in
set_option maxHeartbeats 20000000 in
theorem linesAreRead_closed : joinedFacts Tryz.prog 3 Tryz.f3 Rows.linesAreReadSpec Rows.linesAreReadRow = true := by
 simp only [joinedFacts, Bool.and_eq_true]
 repeat' apply And.intro
 all_goals as_aux_lemma => kernel_rfl

theorem linesAreRead_holds : Rows.LinesAreReadSaid :=
 OpenClaim.holds_of_wide 3 Tryz.f3 rfl rfl rfl rfl rfl rfl rfl ⟨rfl, rfl, rfl, rfl, rfl⟩ rfl rfl rfl rfl rfl (by kernel_rfl) Tryz.func3 linesAreRead_closed
  (of_decide_eq_true (by kernel_rfl)) (by unfold Func.isWrapper; first | (rw [if_pos (by decide +kernel)]; kernel_rfl) | (rw [if_neg (by decide +kernel)]; exact ⟨rfl, rfl⟩))
  (fun os started H enc _ => linesAreRead_lifted os started H enc)

end Go.Proofs.YthobmednnocklaaGreatDoor
