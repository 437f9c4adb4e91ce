/- Profile, Score, skews. -/
import Derived.Test.YtecfjdladcmhjaaSkew3
namespace Go.Proofs.Ytecfjdladcmhjaa
open Go.RowKit

def profI (bs : List Bool) (W H : Nat) (n : Int) (k : Nat) : Int := ((profN bs W H n k : Nat) : Int)
def scoreI (bs : List Bool) (W H : Nat) (n : Int) : Int := sqN (profI bs W H n) (2 * H)
/-- A profile if the error is 0, nothing else. -/
def ProfRes (w : World) (err : Int) (bs : List Bool) (W H : Int) (n : Int) (P : Option Addr) (m : Nat) : Prop :=
  (err = 0 → m = 2 * H.toNat ∧ Reads w 1 P m ((tabL m (profI bs W.toNat H.toNat n)).map (.int .i64))) ∧ (err ≠ 0 → m = 0 ∧ P = none)
theorem ProfRes.bl {w w' : World} {err : Int} {bs : List Bool} {W H n : Int} {P : Option Addr} {m : Nat} (h : ProfRes w err bs W H n P m) (hb : Bl w w') : ProfRes w' err bs W H n P m :=
  ⟨fun e => ⟨(h.1 e).1, (h.1 e).2.bl hb⟩, h.2⟩
theorem prof_count (bs : List Bool) (W H : Nat) (n : Int) (k : Nat) : (((spotL bs (W * H)).countP (profK W H n k) : Nat) : Int) = profI bs W H n k := by
  unfold profI profN
  rw [spotL_count]

set_option maxRecDepth 100000 in
set_option maxHeartbeats 2000000 in
theorem profiles_any (W H : Int) (A : Option Addr) (an ac : Nat) (bs : List Bool) (n : Int) (w : World) (hA : Reads w 1 A an (bs.map .bool)) :
    Calls Try.prog 50 #[.agg #[.int .i64 W, .int .i64 H, .slice A an ac], .int .i64 n] w fun e w' =>
      ∃ P m c, e = .returned (.tuple #[.slice P m c, .int .i64 (leanErr W H an n)]) ∧ ProfRes w' (leanErr W H an n) bs W H n P m ∧ Bl w w' := by
  by_cases he : leanErr W H an n = 0
  · obtain ⟨hp, hn⟩ := leanErr_zero he
    obtain ⟨W, H, rfl, rfl, rfl, u1, u2, u3⟩ := page_nat hp
    have hz := sizeErr_zero (pageErr_zero hp).1
    have hW : 1 ≤ W ∧ W ≤ 4000 := by omega
    have hH : 1 ≤ H ∧ H ≤ 4000 := by omega
    let w2 := (w).alloc (.cells #[.int .i64 W, .int .i64 H, .slice A (W * H) ac] 27)
    have w2b : Bl w w2 := (Bl.refl w).alloc _
    have w21 : Blk w2 (w.heap.size) 27 #[.int .i64 W, .int .i64 H, .slice A (W * H) ac] := by
      have h0 := Blk.new (w) 27 #[.int .i64 W, .int .i64 H, .slice A (W * H) ac]
      exact h0
    have k1 := w21.all3
    have Hz := Lib.hid hz; have Hp := Lib.hid hp; have Hn := Lib.hid hn
    have hsl := spotL_lt bs (W * H)
    have hsn := spotL_len bs (W * H)
    have Hsl := Lib.hid hsl
    have HA := Lib.hid (hA.bl w2b)
    clear hz hp hsl hA
    go_enter Try.func50, Try.ntmps50
    go_wp2_with fail
    refine (check_any _ _ _ _ _ _ _).mono ?_
    rintro e w3 ⟨rfl, hb3⟩
    have k3 := (w21.bl hb3).all3
    have HA3 := Lib.hid (HA.out.bl hb3)
    go_wp2_with fail
    refine wp_region_flow [(true, 0), (true, 1), (true, 3), (false, 2), (false, 4), (true, 5), (true, 6)] (fun _ => false) (by kernel_rfl) (by kernel_rfl) (by kernel_rfl) (by kernel_rfl) ?_
    iterate 2
      apply Flow.calm2 _ _ rfl rfl
      · intro w' hb' K' hK'
        obtain ⟨hc', hf'⟩ := hb'.rule
        go_simp
        try go_ints
        exact hK'
      · intro K' hK'
        simp only [Act.put, List.setIfInBounds_toArray, List.set_cons_zero, List.set_cons_succ]
        exact hK'
    iterate 1
      apply Flow.mv _ rfl
      · intro K' hK'
        simp only [Act.put, Act.eval, List.setIfInBounds_toArray, List.set_cons_zero, List.set_cons_succ, arr_getD, List.getD_cons_zero, List.getD_cons_succ]
        exact hK'
    apply Flow.move rfl
    go_wp2_with fail
    refine (spots_any W H A ac bs _ (HA3.out.bl ((Bl.refl _).drew)) hW.1 u3 u1 u2).mono ?_
    rintro e w4 ⟨P, c, rfl, hP, HB1⟩
    have HP := Lib.hid hP
    clear hP
    go_wp2_with fail
    refine ⟨fun _ => (by first | exact HB1 | exact Bl.refl _), ?_⟩
    apply Flow.move rfl
    go_wp2_with fail
    refine (profile_any W H A (W * H) ac n (spotL bs (W * H)) P c _ HP.out Hsl.out (by omega) hW hH Hn.out).mono ?_
    rintro e w5 ⟨g, rfl, hg, hbk, HB2⟩
    go_wp2_with fail
    refine ⟨fun _ => (by first | exact HB2 | exact Bl.refl _), ?_⟩
    iterate 2
      apply Flow.asg _ rfl
      · intro K' hK'
        simp only [Act.put, Act.eval, List.setIfInBounds_toArray, List.set_cons_zero, List.set_cons_succ, arr_getD, List.getD_cons_zero, List.getD_cons_succ]
        exact hK'
    refine Flow.done ?_
    go_wp2_with fail
    refine bodyPost_ret (v := .tuple #[.slice (some ⟨g, 0, none⟩) (2 * H) (2 * H), .int .i64 (leanErr W H (W * H) n)]) (by simp [results, Try.results50, go_sem, he]) rfl ⟨_, _, _, rfl, ⟨fun _ => ⟨by simp, ?_⟩, fun h => absurd he h⟩, ((w2b.trans hb3).trans HB1.ofDrew).trans HB2⟩
    have e : tabI (2 * H) (fun k => (((spotL bs (W * H)).countP (profK W H n k) : Nat) : Int)) = tabI (2 * H) (profI bs W H n) := tabI_congr fun k _ => prof_count bs W H n k
    rw [e] at hbk
    simpa using hbk.tabReads
  · have hq : (leanErr W H an n != 0) = true := by simp [he]
    have He := Lib.hid he
    clear he
    go_enter Try.func50, Try.ntmps50
    go_wp2_with fail
    refine (check_any _ _ _ _ _ _ _).mono ?_
    rintro e w3 ⟨rfl, hb3⟩
    go_wp2_with fail
    refine bodyPost_ret (v := .tuple #[.slice none 0 0, .int .i64 (leanErr W H an n)]) (by simp [results, Try.results50, go_sem]) rfl ⟨_, _, _, rfl, ⟨fun h => absurd h He.out, fun _ => ⟨rfl, rfl⟩⟩, ((Bl.refl _).alloc _).trans hb3⟩

theorem profI_bd {bs : List Bool} {W H : Nat} {n : Int} (h : W * H ≤ 1048576) (k : Nat) : 0 ≤ profI bs W H n k ∧ profI bs W H n k ≤ 1048576 := by
  have := profN_le bs W H n k
  unfold profI
  omega

set_option maxRecDepth 100000 in
set_option maxHeartbeats 2000000 in
theorem score_any (W H : Int) (A : Option Addr) (an ac : Nat) (bs : List Bool) (n : Int) (w : World) (hA : Reads w 1 A an (bs.map .bool)) :
    Calls Try.prog 27 #[.agg #[.int .i64 W, .int .i64 H, .slice A an ac], .int .i64 n] w fun e w' =>
      ∃ s, e = .returned (.tuple #[.int .i64 s, .int .i64 (leanErr W H an n)]) ∧ (leanErr W H an n = 0 → s = scoreI bs W.toNat H.toNat n) ∧ (leanErr W H an n ≠ 0 → s = 0) ∧ Bl w w' := by
  let w2 := (w).alloc (.cells #[.int .i64 W, .int .i64 H, .slice A an ac] 27)
  have w2b : Bl w w2 := (Bl.refl w).alloc _
  have w21 : Blk w2 (w.heap.size) 27 #[.int .i64 W, .int .i64 H, .slice A an ac] := by
    have h0 := Blk.new (w) 27 #[.int .i64 W, .int .i64 H, .slice A an ac]
    exact h0
  have k1 := w21.all3
  have hA2 := hA.bl w2b
  have HA := Lib.hid hA2
  clear hA hA2
  go_enter Try.func27, Try.ntmps27
  go_wp2_with fail
  refine (profiles_any W H A an ac bs n _ HA.out).mono ?_
  rintro e w3 ⟨P, m, c, rfl, hP, hb3⟩
  have HP := Lib.hid hP
  clear hP
  go_upto_region 2 with fail
  have hsq : ∃ s, (∀ w, w3 = w → Calls Try.prog 51 #[.slice P m c] w fun e w' => e = .returned (.int .i64 s) ∧ w = w') ∧ (leanErr W H an n = 0 → s = scoreI bs W.toNat H.toNat n) ∧ (leanErr W H an n ≠ 0 → s = 0) := by
    by_cases he : leanErr W H an n = 0
    · obtain ⟨rfl, hr⟩ := HP.out.1 he
      obtain ⟨hp, hn⟩ := leanErr_zero he
      obtain ⟨W, H, rfl, rfl, rfl, u1, u2, u3⟩ := page_nat hp
      refine ⟨_, fun w e => by subst e; exact squares_any P _ c _ _ hr (by simp; omega) (fun k => profI_bd (by simpa using u3) k), fun _ => by simp [scoreI], fun h => absurd he h⟩
    · obtain ⟨rfl, rfl⟩ := HP.out.2 he
      refine ⟨0, fun w e => by subst e; exact squares_any none 0 c (fun _ => 0) _ Reads.none_ (by omega) (fun k => by omega), fun h => absurd h he, fun _ => rfl⟩
  obtain ⟨s, hs1, hs2, hs3⟩ := hsq
  have Hs2 := Lib.hid hs2; have Hs3 := Lib.hid hs3
  clear hs2 hs3
  go_wp2_with fail
  refine (hs1 _ rfl).mono ?_
  rintro e w4 ⟨rfl, rfl⟩
  go_wp2_with fail
  refine bodyPost_ret (v := .tuple #[.int .i64 s, .int .i64 (leanErr W H an n)]) (by simp [results, Try.results27, go_sem]) rfl ⟨_, rfl, Hs2.out, Hs3.out, w2b.trans hb3⟩

theorem score_one : scoreI [true] 1 1 0 = 1 := by decide
set_option maxRecDepth 100000 in
set_option maxHeartbeats 1000000 in
theorem skews_any (w : World) : Calls Try.prog 10 #[] w fun e w' => e = .returned (.bool true) ∧ Bl w w' := by
  have he : leanErr 1 1 1 0 = 0 := by decide
  go_enter Try.func10, Try.ntmps10
  go_wp2_with fail
  refine (score_any 1 1 (some ⟨w.heap.size, 0, none⟩) 1 1 [true] 0 _ ((Blk.new w 4 #[.bool true]).reads 1 1 rfl)).mono ?_
  rintro e w3 ⟨s, rfl, hs, _, hb3⟩
  have hs' : s = 1 := (hs he).trans score_one
  subst hs'
  rw [he]
  clear hs
  go_wp2
  go_ret
  exact ⟨rfl, ((Bl.refl _).alloc _).trans hb3⟩

end Go.Proofs.Ytecfjdladcmhjaa
