/- Names: page.IsName and bedref2.NameOf are nameB of the text's bytes. -/
import Derived.Test.YtfdailibecgkhaaGreatDoorMClaimBarCodes0
import Derived.WalkKit
import Derived.Ground.NamesProg
import Derived.Shelf.Lay
import Derived.Shelf.Strings.SlTrimAscii

namespace Go.Proofs
open Go.Shelf
shelf_lay Lays.n160 Nm 160 at Tryz as Tryz.lays160 -- 55
end Go.Proofs
namespace Go.Proofs.YtfdailibecgkhaaGreatDoor
open Go.RowKit Go.Shelf Go.Lib

def nameCs : List UInt8 := [97, 98, 99, 100, 101, 102, 103, 104, 105, 106, 107, 108, 109, 110, 111, 112, 113, 114, 115, 116, 117, 118, 119, 120, 121, 122, 48, 49, 50, 51, 52, 53, 54, 55, 56, 57, 45]
def isLow (b : UInt8) : Bool := decide (97 ≤ b.toNat ∧ b.toNat ≤ 122)
def nameB (l : List UInt8) : Bool := decide (l ≠ [] ∧ l.length ≤ 40 ∧ (∀ b, l[0]? = some b → isLow b = true) ∧ ∀ b ∈ l, nameCs.contains b = true)
theorem dropWhile_nil {α : Type} (p : α → Bool) (l : List α) : l.dropWhile p = [] ↔ ∀ b ∈ l, p b = true := by
  induction l with
  | nil => simp
  | cons a l ih =>
    rw [List.dropWhile_cons]
    cases h : p a
    · simp [h]
    · simp [h, ih]
theorem takeWhile_all {α : Type} (p : α → Bool) (l : List α) : ∀ b ∈ l.takeWhile p, p b = true := by
  induction l with
  | nil => simp
  | cons a l ih =>
    rw [List.takeWhile_cons]
    cases h : p a
    · simp
    · intro b hb
      simp only [if_true, List.mem_cons] at hb
      rcases hb with rfl | hb
      · exact h
      · exact ih b hb
theorem trimS_nil_iff (l cs : List UInt8) : trimS l cs = [] ↔ ∀ b ∈ l, cs.contains b = true := by
  unfold trimS trimLeftS trimRightS
  rw [dropWhile_nil]
  constructor
  · intro h b hb
    by_cases hc : cs.contains b = true
    · exact hc
    · have hr : b ∈ l.reverse.dropWhile (cs.contains ·) := by
        have h2 : b ∈ l.reverse.takeWhile (cs.contains ·) ++ l.reverse.dropWhile (cs.contains ·) := by rw [List.takeWhile_append_dropWhile]; exact List.mem_reverse.2 hb
        rcases List.mem_append.1 h2 with h3 | h3
        · exact absurd (takeWhile_all _ _ _ h3) hc
        · exact h3
      exact h b (List.mem_reverse.2 hr)
  · intro h b hb
    exact h b (List.mem_reverse.1 ((List.dropWhile_suffix _).subset (List.mem_reverse.1 hb)))

end Go.Proofs.YtfdailibecgkhaaGreatDoor
