/- skew.Align, whatever the pages; the law's function values. -/
import Derived.Test.YtccgncjncklheaaAlign4
namespace Go.Proofs.Ytccgncjncklheaa
open Go.RowKit

theorem alignErr_zero {aW aH bW bH : Int} {an bn : Nat} {r : Int} (h : alignErr aW aH bW bH an bn r = 0) : pageErr aW aH an = 0 ∧ pageErr bW bH bn = 0 ∧ aW = bW ∧ aH = bH ∧ 0 ≤ r ∧ r ≤ 8 := by
  unfold alignErr at h
  by_cases h1 : pageErr aW aH an = 0
  · by_cases h2 : pageErr bW bH bn = 0
    · by_cases h3 : aW = bW
      · by_cases h4 : aH = bH
        · cases h5 : inB r 0 8
          · have h6 : (aW != bW || aH != bH) = false := by simp [h3, h4]
            simp only [firstNZ, if_pos h1, if_pos h2, h5, h6, whenI] at h
            simp at h
          · exact ⟨h1, h2, h3, h4, inB_true.1 h5⟩
        · have h5 : (aW != bW || aH != bH) = true := by simp [h4]
          simp only [firstNZ, if_pos h1, if_pos h2, h5, whenI, if_true] at h
          rw [if_neg (by decide)] at h; exact absurd h (by decide)
      · have h5 : (aW != bW || aH != bH) = true := by simp [h3]
        simp only [firstNZ, if_pos h1, if_pos h2, h5, whenI, if_true] at h
        rw [if_neg (by decide)] at h; exact absurd h (by decide)
    · simp only [firstNZ, if_pos h1, if_neg h2] at h; exact absurd h h2
  · simp only [firstNZ, if_neg h1] at h; exact absurd h h1

theorem align_any (aW aH bW bH : Int) (A C : Option Addr) (an ac bn cc : Nat) (bs cs : List Bool) (r : Int) (w : World) (hA : Reads w 1 A an (bs.map .bool)) (hC : Reads w 1 C bn (cs.map .bool)) :
    Calls Try.prog 47 #[.agg #[.int .i64 aW, .int .i64 aH, .slice A an ac], .agg #[.int .i64 bW, .int .i64 bH, .slice C bn cc], .int .i64 r] w
      fun e w' => ∃ X Y N, e = .returned (.tuple #[.int .i64 X, .int .i64 Y, .int .i64 N, .int .i64 (alignErr aW aH bW bH an bn r)]) ∧ (alignErr aW aH bW bH an bn r ≠ 0 → X = 0 ∧ Y = 0 ∧ N = 0) ∧
        (alignErr aW aH bW bH an bn r = 0 → StA (numOf (cntAll bs cs aW.toNat aH.toNat) r.toNat) r.toNat ((2 * r.toNat + 1) * (2 * r.toNat + 1)) X Y N) ∧ Bl w w' := by
  by_cases h1 : pageErr aW aH an = 0
  · by_cases h2 : pageErr bW bH bn = 0
    · by_cases h3 : aW = bW ∧ aH = bH
      · by_cases h5 : 0 ≤ r ∧ r ≤ 8
        · have e : alignErr aW aH bW bH an bn r = 0 := by
            unfold alignErr
            simp only [firstNZ, if_pos h1, if_pos h2]
            simp [whenI, h3.1, h3.2, inB_true.2 h5]
          rw [e]
          obtain ⟨rfl, rfl⟩ := h3
          have hs := (pageErr_zero h1).1
          obtain ⟨W, H, rfl, rfl, rfl, _⟩ := page_nat h1
          obtain ⟨_, _, e1, e2, e3, _⟩ := page_nat h2
          obtain rfl : bn = W * H := by
            have := (pageErr_zero h2).2
            have := Int.natCast_mul W H
            omega
          obtain ⟨r, rfl⟩ := Int.eq_ofNat_of_zero_le h5.1
          refine (align_ok W H A C ac cc bs cs r w hA hC hs (by omega)).mono ?_
          rintro e w' ⟨X, Y, N, rfl, hst, hb⟩
          exact ⟨X, Y, N, rfl, fun h => absurd rfl h, fun _ => by simpa using hst, hb⟩
        · have e : alignErr aW aH bW bH an bn r = 3 := by
            have h5' : inB r 0 8 = false := inB_false.2 (by omega)
            unfold alignErr
            simp only [firstNZ, if_pos h1, if_pos h2]
            simp [whenI, h3.1, h3.2, h5']
          rw [e]
          refine (align_range aW aH bW bH A C an ac bn cc r w h1 h2 h3.1 h3.2 (by omega)).mono ?_
          rintro e w' ⟨rfl, hb⟩
          exact ⟨0, 0, 0, rfl, fun _ => ⟨rfl, rfl, rfl⟩, fun h => absurd h (by decide), hb⟩
      · have e : alignErr aW aH bW bH an bn r = 11 := by
          have h3' : (aW != bW || aH != bH) = true := by
            by_cases a : aW = bW <;> by_cases b : aH = bH
            · exact absurd ⟨a, b⟩ h3
            · simp [b]
            · simp [a]
            · simp [a]
          unfold alignErr; simp only [firstNZ, h1, h2, h3', whenI, if_true]; simp
        rw [e]
        refine (align_conf aW aH bW bH A C an ac bn cc r w h1 h2 h3).mono ?_
        rintro e w' ⟨rfl, hb⟩
        exact ⟨0, 0, 0, rfl, fun _ => ⟨rfl, rfl, rfl⟩, fun h => absurd h (by decide), hb⟩
    · have e : alignErr aW aH bW bH an bn r = pageErr bW bH bn := by unfold alignErr; simp [firstNZ, h1, h2]
      rw [e]
      refine (align_bad2 aW aH bW bH A C an ac bn cc r w h1 h2).mono ?_
      rintro e w' ⟨rfl, hb⟩
      exact ⟨0, 0, 0, rfl, fun _ => ⟨rfl, rfl, rfl⟩, fun h => absurd h h2, hb⟩
  · have e : alignErr aW aH bW bH an bn r = pageErr aW aH an := by unfold alignErr; simp [firstNZ, h1]
    rw [e]
    refine (align_bad1 aW aH bW bH A C an ac bn cc r w h1).mono ?_
    rintro e w' ⟨rfl, hb⟩
    exact ⟨0, 0, 0, rfl, fun _ => ⟨rfl, rfl, rfl⟩, fun h => absurd h h1, hb⟩

set_option maxRecDepth 100000 in
set_option maxHeartbeats 1000000 in
theorem aligns2_any (p q W H : Nat) (A C : Option Addr) (ac cc : Nat) (bs cs : List Bool) (x y : Int) (w : World) (hp : Blk w p 39 #[.int .i64 W, .int .i64 H, .slice A (W * H) ac]) (hq : Blk w q 39 #[.int .i64 W, .int .i64 H, .slice C (W * H) cc])
    (hA : Reads w 1 A (W * H) (bs.map .bool)) (hC : Reads w 1 C (W * H) (cs.map .bool)) (hW : W ≤ 4000) (hH : H ≤ 4000) (hx : -8 ≤ x ∧ x ≤ 8) (hy : -8 ≤ y ∧ y ≤ 8) :
    Calls Try.prog 51 #[.int .i64 x, .int .i64 y, .pointer (some ⟨p, 0, none⟩), .pointer (some ⟨q, 0, none⟩)] w fun e w' => e = .returned (.int .i64 (cntAll bs cs W H x y)) ∧ Bl w w' := by
  have k1 := hp.all3
  have k2 := hq.all3
  go_enter Try.func51, Try.ntmps51
  go_wp2_with fail
  refine (differOf_any W H A C ac cc bs cs x y w hA hC hW hH hx hy).mono ?_
  rintro e w1 ⟨rfl, hb1⟩
  go_wp2_with fail
  go_ret
  exact ⟨rfl, hb1⟩
theorem aligns2_enters : ∀ args w, (callFunc 51 args).run Try.prog w = .ok (.enter 51 args) w := enters Try.func51 (by kernel_rfl) rfl

end Go.Proofs.Ytccgncjncklheaa
