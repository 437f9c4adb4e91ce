/- Fonts are looked at; chance. -/
import Derived.Test.YtjelhdpcaileiaaDoorU16

namespace Go.Proofs.YtjelhdpcaileiaaDoor
open Go.RowKit

theorem LtrsAt.none (w : World) : LtrsAt w none [] := ⟨⟨rfl, fun h => absurd h (by decide)⟩, fun l hl => absurd hl (by simp)⟩
set_option maxHeartbeats 1000000 in
theorem glyphs_any (w : World) : Calls Tryd.prog 15 #[] w fun e w' => e = .returned (.bool true) ∧ Bl w w' := by
  have c1 := fun w => check_any [] 0 0 0 none 0 [] w (LtrsAt.none w) (by decide) (by decide)
  have c2 := fun w => check_any [97] 1 1 2 none 0 [] w (LtrsAt.none w) (by decide) (by decide)
  rw [show fontErr (nameB []) 0 0 0 [] = 5 by decide] at c1
  rw [show fontErr (nameB [97]) 1 1 2 [] = 9 by decide] at c2
  go_enter Tryd.func15, Tryd.ntmps15
  go_wp2_with fail
  refine (c1 _).mono ?_
  rintro e w1 ⟨rfl, hb1⟩
  go_wp2_with fail
  refine (c2 _).mono ?_
  rintro e w2 ⟨rfl, hb2⟩
  go_wp2_with fail
  go_ret
  exact ⟨rfl, hb1.trans hb2⟩
def chH1 (s k : Int) : Int := bits .xor .u32 s (k % 4294967296 * 2654435769 % 4294967296)
def chH2 (h : Int) : Int := bits .xor .u32 h (h / 65536) * 2246822507 % 4294967296
def chH3 (h : Int) : Int := bits .xor .u32 h (h / 8192) * 3266489909 % 4294967296
def chH4 (h : Int) : Int := bits .xor .u32 h (h / 65536)
/-- A chance. -/
def chanceI (s k : Int) : Int := wrap64 (chH4 (chH3 (chH2 (chH1 s k))) % 1000)
set_option maxHeartbeats 1000000 in
theorem chance_any (s k : Int) (w : World) : Calls Tryd.prog 74 #[.int .u32 s, .int .i64 k] w fun e w' => e = .returned (.int .i64 (chanceI s k)) ∧ w = w' := by
  go_enter Tryd.func74, Tryd.ntmps74
  go_wp2_with fail
  go_ret
  exact ⟨rfl, rfl⟩
set_option maxHeartbeats 1000000 in
theorem chanceOf_any (s k : Int) (w : World) : Calls Tryd.prog 81 #[.int .u32 s, .int .i64 k] w fun e w' => e = .returned (.int .i64 (chanceI s k)) ∧ w = w' := by
  go_enter Tryd.func81, Tryd.ntmps81
  go_wp2_with fail
  go_ret
  exact ⟨rfl, rfl⟩

end Go.Proofs.YtjelhdpcaileiaaDoor
