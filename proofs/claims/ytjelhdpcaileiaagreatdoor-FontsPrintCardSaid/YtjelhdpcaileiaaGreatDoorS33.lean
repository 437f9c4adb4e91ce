/- The law on texts of pages. -/
import Derived.Test.YtjelhdpcaileiaaGreatDoorS29
import Derived.Test.YtjelhdpcaileiaaGreatDoorS31
import Derived.Test.YtjelhdpcaileiaaGreatDoorS13
import Derived.Test.YtjelhdpcaileiaaGreatDoorS32
import Derived.Deep.CutRange
import Derived.Deep.Light

namespace Go.Proofs.YtjelhdpcaileiaaGreatDoor
open Go.RowKit Go.Shelf

theorem print_any (W H : Int) (A : Option Addr) (an ac : Nat) (bs : List Bool) (w : World) (hA : Reads w 1 A an (bs.map .bool)) :
    Calls Tryz.prog 70 #[.agg #[.int .i64 W, .int .i64 H, .slice A an ac]] w fun e w' => ∃ s : ByteArray, e = .returned (.tuple #[.string s, .int .i64 (printErr W H an)]) ∧ (printErr W H an ≠ 0 → s = ⟨#[]⟩) ∧ (printErr W H an = 0 → s = ⟨(prL bs W.toNat H.toNat).toArray⟩) ∧ Bl w w' := by
  by_cases he : printErr W H an = 0
  · obtain ⟨hp, h1, h2⟩ := printErr_zero he
    have hz := sizeErr_zero (pageErr_zero hp).1
    obtain ⟨W, H, rfl, rfl, rfl, u1, u2, u3⟩ := page_nat hp
    refine (print_ok W H A ac bs w hA hp (by omega) (by omega)).mono ?_
    rintro e w' ⟨rfl, hb⟩
    exact ⟨_, by rw [he], fun h => absurd he h, fun _ => by simp, hb⟩
  · refine (print_bad W H A an ac w he).mono ?_
    rintro e w' ⟨rfl, hb⟩
    exact ⟨_, rfl, fun _ => rfl, fun h => absurd h he, hb⟩

theorem parseRes_open {w : World} {V U : Nat} {Q : List Bool} {a : Nat} {k : Int} {e : Ending} (h : ParseRes w (V, U, Q, a, k) e) : ∃ R c, e = .returned (.tuple #[.agg #[.int .i64 V, .int .i64 U, .slice R Q.length c], .int .i64 a, .int .i64 k]) ∧ Reads w 1 R Q.length (Q.map .bool) := h

end Go.Proofs.YtjelhdpcaileiaaGreatDoor
