/- bedref2.FontError is fontErr. -/
import Derived.Test.YtahfkahfaiidgaaGreatDoorMClaimForms4
import Derived.Test.YtahfkahfaiidgaaGreatDoorMClaimForms9
import Derived.Test.YtahfkahfaiidgaaGreatDoorMClaimForms1
import Derived.Test.YtahfkahfaiidgaaGreatDoorMClaimForms0

namespace Go.Proofs.YtahfkahfaiidgaaGreatDoor
open Go.RowKit

theorem Blk.all5 {w : World} {g : Nat} {t : TypeId} {x y z u v : Value} (h : Blk w g t #[x, y, z, u, v]) : w.cell? ⟨g, 0, none⟩ = some x ∧ w.cell? ⟨g, 1, none⟩ = some y ∧ w.cell? ⟨g, 2, none⟩ = some z ∧ w.cell? ⟨g, 3, none⟩ = some u ∧ w.cell? ⟨g, 4, none⟩ = some v ∧ ∀ i, w.frozen? ⟨g, i, none⟩ = false := ⟨h.cell 0, h.cell 1, h.cell 2, h.cell 3, h.cell 4, h.frozen⟩
end Go.Proofs.YtahfkahfaiidgaaGreatDoor


/-! bedref2.FontError is fontErr. -/
namespace Go.Proofs.YtahfkahfaiidgaaGreatDoor
open Go.RowKit

theorem len0 (n : Nat) : ((n : Int) == 0) = decide (n = 0) := by
  cases n with
  | zero => rfl
  | succ n => rw [decide_eq_false (by omega)]; exact beq_eq_false_iff_ne.2 (by omega)
end Go.Proofs.YtahfkahfaiidgaaGreatDoor
