/- strings.Trim at a set of signs; whether a text is of certain signs; bar.CheckDigit of 12 digits; bedlaw2.bars. -/
import Derived.Test.YtahfkahfaiidgaaGreatDoorMClaimFormRules10
import Derived.Test.YtahfkahfaiidgaaGreatDoorMClaimFormRules0
import Derived.Test.YtahfkahfaiidgaaGreatDoorMClaimFormRules6
import Derived.Shelf.Strings.Cut
import Derived.Lib.CutLaws
import Derived.Lib.SlTrimSet

namespace Go.Proofs.YtahfkahfaiidgaaGreatDoor
open Go.RowKit Go.Shelf

theorem trim_any (l cs : List UInt8) (w : World) (hl : l.length ≤ 9223372036854775807) (hcs : cs.length ≤ 100) (ha : ∀ (j : Nat) b, cs[j]? = some b → b.toNat < 128) :
    Calls Tryz.prog 88 #[.string ⟨l.toArray⟩, .string ⟨cs.toArray⟩] w fun e w' => e = .returned (.string ⟨(Lib.trimS l cs).toArray⟩) ∧ Bl w w' := by
  have h := Any.strings_Trim_laid Tryz.lays160 (by kernel_rfl) ⟨l.toArray⟩ ⟨cs.toArray⟩ w (by rw [Lib.size_mk]; exact hl) (by rw [Lib.size_mk]; omega) ha
  refine Calls.mono (R := fun e w' => e = .returned (.string ⟨(Lib.trimS l cs).toArray⟩) ∧ Below w.heap.size w w') h ?_
  rintro e w' ⟨rfl, hb⟩
  exact ⟨rfl, hb⟩
/-- All signs of a text are of a set. -/
def madeOf (l cs : List UInt8) : Bool := l.all fun b => cs.contains b
theorem trim_made (l cs : List UInt8) : (Lib.trimS l cs).isEmpty = madeOf l cs := by
  rw [Bool.eq_iff_iff, List.isEmpty_iff, trimS_nil_iff]
  unfold madeOf
  rw [List.all_eq_true]
def digits10 : List UInt8 := [48, 49, 50, 51, 52, 53, 54, 55, 56, 57]
theorem digits_ascii : ∀ (j : Nat) b, digits10[j]? = some b → b.toNat < 128 := by
  intro j b h
  have hm := List.mem_of_getElem? h
  have : ∀ b ∈ digits10, b.toNat < 128 := by decide
  exact this b hm
theorem made_at {l : List UInt8} (h : madeOf l digits10 = true) {i : Nat} {b : UInt8} (hi : l[i]? = some b) : 48 ≤ b.toNat ∧ b.toNat ≤ 57 := by
  unfold madeOf at h
  have h1 := List.all_eq_true.1 h b (List.mem_of_getElem? hi)
  have h2 : ∀ b ∈ digits10, 48 ≤ b.toNat ∧ b.toNat ≤ 57 := by decide
  exact h2 b (by simpa using h1)
end Go.Proofs.YtahfkahfaiidgaaGreatDoor
