/- Nearest, with numbers that a function value tells. -/
import Derived.Test.YtccgncjncklheaaAlign1
import Derived.Laws.EntriesVeiled
namespace Go.Proofs.Ytccgncjncklheaa
open Go.RowKit

def numOf (F : Int → Int → Nat) (r j : Nat) : Nat := F (dxOf r j) (dyOf r j)

set_option maxHeartbeats 400000 in
theorem aligns1_any (x y : Int) (w : World) : Calls Try.prog 50 #[.int .i64 x, .int .i64 y] w fun e w' => e = .returned (.bool true) ∧ w = w' := by
  go_enter Try.func50, Try.ntmps50
  go_wp2
  go_ret
  exact ⟨rfl, rfl⟩
theorem aligns1_enters : ∀ args w, (callFunc 50 args).run Try.prog w = .ok (.enter 50 args) w := enters Try.func50 (by kernel_rfl) rfl

set_option maxRecDepth 100000 in
set_option maxHeartbeats 2000000 in
theorem nearest_any (r : Nat) (F : Int → Int → Nat) (kf : FuncId) (cap : Array Value) (w : World) (hr : r ≤ 8) (hent : ∀ args w, (callFunc kf args).run Try.prog w = .ok (.enter kf args) w)
    (hF : ∀ wx (x y : Int), Bl w wx → -8 ≤ x ∧ x ≤ 8 → -8 ≤ y ∧ y ≤ 8 → Calls Try.prog kf (#[.int .i64 x, .int .i64 y] ++ cap) wx fun e w' => e = .returned (.int .i64 (F x y)) ∧ Bl wx w') :
    Calls Try.prog 49 #[.int .i64 r, .func (.func 50) #[] #[], .func (.func kf) #[] cap] w
      fun e w' => ∃ X Y N fd, e = .returned (.tuple #[.int .i64 X, .int .i64 Y, .int .i64 N]) ∧ StN (numOf F r) r (2 * r + 1) 0 X Y N fd ∧ Bl w w' := by
  have HF := Lib.hid hF
  have hent1 := aligns1_enters
  have st0 := StN.start (numOf F r) r 0 0
  have St0 := Lib.hid st0
  clear hF st0
  go_enter Try.func49, Try.ntmps49
  go_wp2_with fail
  go_loopw [9, 10, 11, 12, 13] (fun a b c d u wr => ∃ (f : Nat) (X Y N : Int) (fd : Bool), f ≤ 2 * r + 1 ∧ u = .int .i64 f ∧ a = .int .i64 X ∧ b = .int .i64 Y ∧ c = .int .i64 N ∧ d = .bool fd ∧ Hid (StN (numOf F r) r f 0 X Y N fd) ∧ Bl w wr) (fun _ _ _ _ u _ => 2 * r + 1 - (intOf u).toNat)
  case atStart => exact ⟨0, 0, 0, 0, false, Nat.zero_le _, rfl, rfl, rfl, rfl, rfl, St0, Bl.refl _⟩
  case round =>
    obtain ⟨f, X, Y, N, fd, hf, rfl, rfl, rfl, rfl, rfl, hst, hbr⟩ := hrel
    by_cases hlt : f < 2 * r + 1
    · have d1 : decide ((f : Int) ≤ 2 * (r : Int)) = true := by simp; omega
      go_wp2_with fail
      go_loopw [9, 10, 11, 12, 14] (fun a b c d u wr => ∃ (v : Nat) (X Y N : Int) (fd : Bool), v ≤ 2 * r + 1 ∧ u = .int .i64 ((v : Int) - r) ∧ a = .int .i64 X ∧ b = .int .i64 Y ∧ c = .int .i64 N ∧ d = .bool fd ∧ Hid (StN (numOf F r) r f (v * (2 * r + 1)) X Y N fd) ∧ Bl w wr) (fun _ _ _ _ u _ => (r + 1 - intOf u).toNat)
      case atStart => exact ⟨0, X, Y, N, fd, Nat.zero_le _, by simp, rfl, rfl, rfl, rfl, by rw [Nat.zero_mul]; exact hst, hbr⟩
      case round =>
        clear hst hbr
        rename_i wo _ _ _ _ _ _ _
        obtain ⟨v, X, Y, N, fd, hv, rfl, rfl, rfl, rfl, rfl, hst, hbr⟩ := hrel
        by_cases hlt2 : v < 2 * r + 1
        · have d2 : decide ((v : Int) - (r : Int) ≤ (r : Int)) = true := by simp; omega
          go_wp2_with fail
          go_loopw [9, 10, 11, 12, 15] (fun a b c d u wr => ∃ (x : Nat) (X Y N : Int) (fd : Bool), x ≤ 2 * r + 1 ∧ u = .int .i64 ((x : Int) - r) ∧ a = .int .i64 X ∧ b = .int .i64 Y ∧ c = .int .i64 N ∧ d = .bool fd ∧ Hid (StN (numOf F r) r f (v * (2 * r + 1) + x) X Y N fd) ∧ Bl w wr) (fun _ _ _ _ u _ => (r + 1 - intOf u).toNat)
          case atStart => exact ⟨0, X, Y, N, fd, Nat.zero_le _, by simp, rfl, rfl, rfl, rfl, hst, hbr⟩
          case round =>
            clear hst hbr
            rename_i wo2 _ _ _ _ _ _ _
            obtain ⟨x, X, Y, N, fd, hx, rfl, rfl, rfl, rfl, rfl, hst, hbr⟩ := hrel
            by_cases hlt3 : x < 2 * r + 1
            · obtain ⟨q, hq⟩ : ∃ q, q = farOf r (v * (2 * r + 1) + x) := ⟨_, rfl⟩
              have edx := dxOf_at r v x hlt3
              have edy := dyOf_at r v x hlt3
              have eq : (((x : Int) - r).natAbs : Int) + (((v : Int) - r).natAbs : Int) = (q : Int) := by
                rw [hq]; unfold farOf; rw [edx, edy]; simp
              have hm : v * (2 * r + 1) + x < (2 * r + 1) * (2 * r + 1) := place_lt hlt3 hlt2
              have hnum : numOf F r (v * (2 * r + 1) + x) = F ((x : Int) - r) ((v : Int) - r) := by unfold numOf; rw [edx, edy]
              have hcall := HF.out wr ((x : Int) - r) ((v : Int) - r) hbr (by omega) (by omega)
              rw [← hnum] at hcall
              obtain ⟨n, hn⟩ : ∃ n, n = numOf F r (v * (2 * r + 1) + x) := ⟨_, rfl⟩
              rw [← hn] at hcall
              have b1 : -1000000 ≤ (x : Int) - r ∧ (x : Int) - r ≤ 1000000 := by omega
              have b2 : -1000000 ≤ (v : Int) - r ∧ (v : Int) - r ≤ 1000000 := by omega
              have Hcall := Lib.hid hcall; have Hq := Lib.hid hq; have Hm := Lib.hid hm; have Edx := Lib.hid edx; have Edy := Lib.hid edy; have Hn := Lib.hid hn
              clear hcall hq hm edx edy hn hnum
              by_cases hfar : q = f
              · subst hfar
                cases fd
                · have hs := hst.out.take Hm.out Hq.out.symm (Or.inl rfl)
                  rw [Edx.out, Edy.out, ← Hn.out] at hs
                  have Hs := Lib.hid hs
                  clear hs
                  go_wp2_with (first | (go_at_call 116; refine (abs_any _ _ (by omega)).mono ?_; rintro e w' ⟨rfl, rfl⟩) | (go_at_call 50; refine (aligns1_any _ _ _).mono ?_; rintro e w' ⟨rfl, rfl⟩))
                  refine Hcall.out.mono ?_
                  rintro e w1 ⟨rfl, hb1⟩
                  go_wp2_with fail
                  exact ⟨⟨x + 1, _, _, _, true, hlt3, by go_num, rfl, rfl, rfl, rfl, Hs, hbr.trans hb1⟩, by simp [intOf]; omega⟩
                · by_cases hlt4 : (n : Int) < N
                  · have hs := hst.out.take Hm.out Hq.out.symm (Or.inr (by rw [← Hn.out]; exact hlt4))
                    rw [Edx.out, Edy.out, ← Hn.out] at hs
                    have Hs := Lib.hid hs
                    clear hs
                    go_wp2_with (first | (go_at_call 116; refine (abs_any _ _ (by omega)).mono ?_; rintro e w' ⟨rfl, rfl⟩) | (go_at_call 50; refine (aligns1_any _ _ _).mono ?_; rintro e w' ⟨rfl, rfl⟩))
                    refine Hcall.out.mono ?_
                    rintro e w1 ⟨rfl, hb1⟩
                    go_wp2_with fail
                    exact ⟨⟨x + 1, _, _, _, true, hlt3, by go_num, rfl, rfl, rfl, rfl, Hs, hbr.trans hb1⟩, by simp [intOf]; omega⟩
                  · have hs := hst.out.keep Hq.out.symm (by rw [← Hn.out]; simp only [Bool.true_eq_false, false_or]; exact hlt4)
                    have Hs := Lib.hid hs
                    clear hs
                    go_wp2_with (first | (go_at_call 116; refine (abs_any _ _ (by omega)).mono ?_; rintro e w' ⟨rfl, rfl⟩) | (go_at_call 50; refine (aligns1_any _ _ _).mono ?_; rintro e w' ⟨rfl, rfl⟩))
                    refine Hcall.out.mono ?_
                    rintro e w1 ⟨rfl, hb1⟩
                    go_wp2_with fail
                    exact ⟨⟨x + 1, _, _, _, true, hlt3, by go_num, rfl, rfl, rfl, rfl, Hs, hbr.trans hb1⟩, by simp [intOf]; omega⟩
              · have hs := hst.out.skip (by rw [← Hq.out]; exact hfar)
                have Hs := Lib.hid hs
                have hne : ((q : Int) != (f : Int)) = true := by simp; omega
                clear hs
                go_wp2_with (first | (go_at_call 116; refine (abs_any _ _ (by omega)).mono ?_; rintro e w' ⟨rfl, rfl⟩))
                exact ⟨⟨x + 1, _, _, _, fd, hlt3, by go_num, rfl, rfl, rfl, rfl, Hs, hbr⟩, by simp [intOf]; omega⟩
            · obtain rfl : x = 2 * r + 1 := by omega
              go_wp2_with fail
              exact ⟨⟨v + 1, X, Y, N, fd, hlt2, by go_num, rfl, rfl, rfl, rfl, by rw [Nat.add_mul, Nat.one_mul]; exact hst, hbr⟩, by simp [intOf]; omega⟩
        · obtain rfl : v = 2 * r + 1 := by omega
          go_wp2_with fail
          exact ⟨⟨f + 1, X, Y, N, fd, hlt, by go_num, rfl, rfl, rfl, rfl, Lib.hid hst.out.level, hbr⟩, by simp [intOf]; omega⟩
    · obtain rfl : f = 2 * r + 1 := by omega
      go_wp2_with fail
      refine bodyPost_ret (v := .tuple #[.int .i64 X, .int .i64 Y, .int .i64 N]) (by simp [results, Try.results49, go_sem]) rfl ⟨X, Y, N, fd, rfl, hst.out, hbr⟩

end Go.Proofs.Ytccgncjncklheaa
