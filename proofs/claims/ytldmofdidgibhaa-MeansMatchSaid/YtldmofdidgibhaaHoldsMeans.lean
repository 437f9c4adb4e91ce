/- PROVED: MeansMatch answers true for every page in grey and every radius, and leaves the page as it was. No condition. -/
import Derived.Test.YtldmofdidgibhaaLawMeans
import Derived.Test.YtldmofdidgibhaaTop
namespace Go.Proofs.Ytldmofdidgibhaa
open Go.ChangeShapes Go.WideShapes Go.ChangeAt Go.RowKit Go.Joins

theorem lawMeans_any (W H : Int) (A : Option Addr) (n c : Nat) (zs : List Int) (r : Int) (w : World) (hl : zs.length = n) (hr : Reads w 1 A n (zs.map (.int .u8))) (hz : Bytes zs) :
    Calls Try.prog 3 #[.agg #[.int .i64 W, .int .i64 H, .slice A n c], .int .i64 r] w fun e w' => e = .returned (.bool true) ∧ Bl w w' := by
  by_cases h : meansErr W H n r = 0
  · have hp : pageErr W H n = 0 := by
      unfold meansErr at h
      split at h
      · assumption
      · contradiction
    have hi : inB r 0 200 = true := by
      unfold meansErr at h
      rw [if_pos hp] at h
      cases hb : inB r 0 200
      · simp [hb] at h
      · rfl
    obtain ⟨hs, hn⟩ := pageErr_zero hp
    have hz' := sizeErr_zero hs
    obtain ⟨W', rfl⟩ := Int.eq_ofNat_of_zero_le (show 0 ≤ W by omega)
    obtain ⟨H', rfl⟩ := Int.eq_ofNat_of_zero_le (show 0 ≤ H by omega)
    obtain ⟨h1, h2⟩ := inB_true.1 hi
    obtain ⟨r', rfl⟩ := Int.eq_ofNat_of_zero_le h1
    obtain rfl : n = W' * H' := by have := Int.natCast_mul W' H'; omega
    exact lawMeans_ok W' H' A c zs r' w hr hz hs (by omega)
  · exact lawMeans_bad W H A n c r w h

set_option maxRecDepth 100000 in
theorem meansMatch_lifted (os : Os) (started : os.Started) (H : Type) (enc : TypeId × Value → H) :
    ReturnsInHanded {} Try.checked os 3 .any (Rows.meansMatchSpec.pre6 enc Try.prog Try.f3 Rows.meansMatchRow.domain false) (Rows.meansMatchSpec.post enc Try.prog Try.f3 false true false false) := by
  refine returnsInHanded_of_change (C := Try.checked) Try.own started (by kernel_rfl) Try.func3
    (ChangeSpec.witness6 (enc := enc) (C := Try.checked) false ⟨#[], #[.agg #[.int .i64 0, .int .i64 0, .slice none 0 0], .int .i64 0], []⟩ 8 (by kernel_rfl) (by kernel_rfl) (by kernel_rfl) (by kernel_rfl)) ?_
  intro W base args ds gs before hval0 hW hcnd _
  have hval : ∀ (j : Nat) t v, Try.f3.params[j]? = some t → args[j]? = some v → Value.okWide Try.prog W .any base t v := hval0
  have hW' := hW
  obtain ⟨p, q, hA0, hV, rfl, hfz, hnd⟩ := hW
  have hA : DataW.TrodAll enc Try.prog W 0 (fun _ => true) true Try.f3.params.toList args.toList ds p := hA0
  rw [Try.params3] at hA hval
  obtain ⟨v0, v1, d0, d1, p0, p1, rfl, rfl, rfl, h0, h1⟩ := trodAll_two hA
  obtain ⟨rfl, rfl⟩ := trodVars_none hV
  obtain ⟨Wd, Ht, A, n, c, zs, rfl, hl, hrd, hz, _, _, _⟩ := open_gray (hval 0 24 v0 rfl rfl) h0
  obtain ⟨r, rfl, rfl, rfl, wr⟩ := open_int Try.underlying3 (hval 1 3 v1 rfl rfl) h1
  refine (lawMeans_any Wd Ht A n c zs r W hl hrd hz).mono fun e W' ⟨he, hb⟩ => ?_
  subst he
  exact ⟨_, rfl, law_post Try.laidOut Try.underlying4 rfl rfl (by rw [Try.params3]; intro t ht; simp at ht; rcases ht with rfl | rfl <;> exact ⟨by kernel_rfl, of_decide_eq_true (by kernel_rfl)⟩) hW' rfl rfl rfl hb⟩

theorem meansMatch_holds : Rows.MeansMatchSaid :=
  OpenClaim.holds_of_wide 3 Try.f3 rfl rfl rfl rfl rfl rfl rfl ⟨rfl, rfl, rfl, rfl, rfl⟩ rfl rfl rfl rfl rfl (by kernel_rfl) Try.func3 (by kernel_rfl)
    (of_decide_eq_true (by kernel_rfl)) (by unfold Func.isWrapper; first | (rw [if_pos (by decide +kernel)]; kernel_rfl) | (rw [if_neg (by decide +kernel)]; exact ⟨rfl, rfl⟩))
    (fun os started H enc _ => meansMatch_lifted os started H enc)
#print axioms meansMatch_holds

end Go.Proofs.Ytldmofdidgibhaa
