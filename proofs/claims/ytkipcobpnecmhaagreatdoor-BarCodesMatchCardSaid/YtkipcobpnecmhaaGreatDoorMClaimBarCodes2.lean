/- Texts of letters; searches through letters; slices.Contains of ints. -/
import Derived.Test.YtkipcobpnecmhaaGreatDoorMClaimBarCodes1
import Derived.Lib.TrimByte

namespace Go.Proofs.YtkipcobpnecmhaaGreatDoor
open Go.RowKit

/-! ### searches through letters -/
def Ltr.val (l : Ltr) : Value := .agg #[.string ⟨l.text.toArray⟩, .int .i64 l.W, .int .i64 l.H, .slice l.A l.m l.c]
/-- A function value that tests letters. -/
def Tests (P : Program) (k : FuncId) (cap : Array Value) (w : World) (ls : List Ltr) (p : Ltr → Bool) : Prop :=
  (∀ args w, (callFunc k args).run P w = .ok (.enter k args) w) ∧ ∀ wx l, Bl w wx → l ∈ ls → Calls P k (#[l.val] ++ cap) wx fun e w' => e = .returned (.bool (p l)) ∧ Bl wx w'
theorem Tests.bl {P : Program} {k : FuncId} {cap : Array Value} {w w' : World} {ls : List Ltr} {p : Ltr → Bool} (h : Tests P k cap w ls p) (hb : Bl w w') : Tests P k cap w' ls p := ⟨h.1, fun wx l hx hl => h.2 wx l (hb.trans hx) hl⟩
/-- The first letter that is met. -/
def FirstIs (ls : List Ltr) (p : Ltr → Bool) (i : Int) : Prop :=
  (i = -1 ∧ ∀ l ∈ ls, p l = false) ∨ ∃ (j : Nat) (l : Ltr), i = (j : Int) ∧ ls[j]? = some l ∧ p l = true ∧ ∀ j' l', j' < j → ls[j']? = some l' → p l' = false
/-! ### slices.Contains of ints -/
end Go.Proofs.YtkipcobpnecmhaaGreatDoor
